-- Made by this session's programs out of the translation and of its own texts.
import Derived.Test.YteddpdonmhiplaaMFnExactReadAread
namespace Go.Proofs.Yteddpdonmhiplaa.PR
open Go.RowKit Go.Proofs.YteddpdonmhiplaaW.PrintWords Go.Proofs.YteddpdonmhiplaaW.PrintLast Go.Proofs.YteddpdonmhiplaaW.PrintMore
attribute [local go_sem] max2_int min2_int max_two min_two max_three min_three max_four min_four   -- for this text's walks alone
set_option linter.unusedVariables false
set_option linter.unusedSimpArgs false

/-! ### zL_rec5: a text by hand -/
def catN (f : Nat → List Int) (i : Nat) : List Int := ((List.range i).map f).flatten
theorem catN_succ (f : Nat → List Int) (i : Nat) : catN f (i + 1) = catN f i ++ f i := by
 unfold catN
 rw [List.range_succ, List.map_append, List.flatten_append]
 simp
theorem sLoop_all (cr : List Int → Int) (S : Nat → List Int) (seq : Int) (K : Nat) (h : ∀ j, j < K → getN (S j) 8 ≤ 48) : ∀ (m i : Nat), i + m = K →
   sLoop cr S seq K m i (catN (fun j => cutN (S j)) i) (catN S i) = if (catN (fun j => cutN (S j)) K).length > 30000 then (false, [], 0) else if (secsOf cr seq (catN (fun j => cutN (S j)) K)).flatten = catN S K then (true, catN (fun j => cutN (S j)) K, (K : Int)) else (false, [], 0)
 | 0, i, hi => by
   obtain rfl : i = K := by omega
   rfl
 | m + 1, i, hi => by
   have hg := h i (by omega)
   rw [sLoop, if_neg (by omega), ← catN_succ S i]
   have := catN_succ (fun j => cutN (S j)) i
   rw [← this]
   exact sLoop_all cr S seq K h m (i + 1) (by omega)
theorem sLoop_bad (cr : List Int → Int) (S : Nat → List Int) (seq : Int) (K : Nat) (j : Nat) (hj : j < K) (h : getN (S j) 8 > 48) : ∀ (m i : Nat) (P R : List Int), i + m = K → i ≤ j → sLoop cr S seq K m i P R = (false, [], 0)
 | 0, i, P, R, hi, hij => by omega
 | m + 1, i, P, R, hi, hij => by
   rw [sLoop]
   by_cases c : getN (S i) 8 > 48
   ·rw [if_pos c]
   ·rw [if_neg c]
    have hne : i ≠ j := fun e => c (e ▸ h)
    exact sLoop_bad cr S seq K j hj h m (i + 1) _ _ (by omega) (by omega)
theorem rrAcc_all {pc : Int → Int → List Int → List Int} {l0 : List Int} {l1 : List S79} {at_ k : Int} : ∀ i : Nat, (∀ j : Nat, j < i → rrBad pc k j (dRd l0 l1 (at_ + j)) = false) → rrAcc pc l0 l1 at_ k i = some (catN (fun j => cutN (dRd l0 l1 (at_ + j))) i)
 | 0, _ => rfl
 | i + 1, h => by
   have hh := catN_succ (fun j => cutN (dRd l0 l1 (at_ + j))) i
   rw [rr_more (rrAcc_all i (fun j hj => h j (by omega))) (h i (by omega)), hh]
theorem rrAcc_bad {pc : Int → Int → List Int → List Int} {l0 : List Int} {l1 : List S79} {at_ k : Int} (j : Nat) (h : rrBad pc k j (dRd l0 l1 (at_ + j)) = true) : ∀ i : Nat, j < i → rrAcc pc l0 l1 at_ k i = none
 | 0, hj => by omega
 | i + 1, hj => by
   rw [rrAcc]
   by_cases e : j = i
   ·subst e
    cases rrAcc pc l0 l1 at_ k j with
    | none => rfl
    | some p => rw [Option.bind_some, if_pos h]
   ·rw [rrAcc_bad j h i (by omega)]; rfl
theorem specRR_ev {cr : List Int → Int} (hc : CrcOk cr) (l0 : List Int) (l1 : List S79) (a2 : Int) (a3 : Bool) (at_ seq : Int) (hok : RsOk l0 l1) : Ev (fun k => spec_ReadRec.f k l0 l1 a2 a3 at_ seq) (mRR (pcOf cr seq) l0 l1 a2 at_ seq) := by
 have hz : Ev (fun k => spec_ReadRec.j0 k at_ seq true l0 l1 a2 a3) (false, [], 0) := Ev.step (fun K => by simp only [spec_ReadRec.j0]; rw [if_true]) (Ev.now _)
 have hz1 : ∀ kk : Int, Ev (fun k => spec_ReadRec.j1 k at_ seq kk true l0 l1 a2 a3) (false, [], 0) := fun kk => Ev.step (fun K => by simp only [spec_ReadRec.j1]; rw [if_true]) (Ev.now _)
 have hsec := sectors_at l0 hok.1
 unfold spec_ReadRec.f mRR
 refine Ev.bind (specValid_ev l0 l1 a2 a3 hok.1 hok.2.1.1) ?_
 by_cases cv : vD l0 l1 a2 = true
 case neg =>
  have cv' : vD l0 l1 a2 = false := by simpa using cv
  rw [cv']
  exact Ev.congr (fun k => if_neg (by decide)) hz
 refine Ev.congr (fun k => if_pos cv) ?_
 obtain ⟨f1, f2, f3, f4, f5, f6, f7⟩ := vD_facts cv
 refine Ev.congr (fun k => by rw [specNum_eq, Option.bind_some]) ?_
 by_cases cg : gN seq = true
 case neg =>
  have cg' : gN seq = false := by simpa using cg
  rw [cg']
  refine Ev.congr (fun k => if_neg (by decide)) ?_
  rw [if_neg (by simp)]
  exact hz
 refine Ev.congr (fun k => if_pos cg) ?_
 have hs : 1 ≤ seq ∧ seq ≤ 2000000000 := by unfold gN at cg; simpa using cg
 by_cases ca : at_ < 0
 ·refine Ev.congr (fun k => if_pos ca) ?_
  rw [if_neg (by unfold inD; simp; omega)]
  exact hz
 refine Ev.congr (fun k => by rw [if_neg ca, spec_l1Sectors.f, hsec, Option.bind_some]) ?_
 by_cases cb : at_ ≥ ((l0.length / 64 : Nat) : Int)
 ·refine Ev.congr (fun k => by rw [decide_eq_true cb]) ?_
  rw [if_neg (by unfold inD; simp; omega)]
  exact hz
 have hin : inD l0 at_ = true := by unfold inD; simp; omega
 refine Ev.congr (fun k => by rw [decide_eq_false cb]) ?_
 rw [if_pos (by rw [cv, cg, hin]; rfl)]
 have hR := specRead_ev l0 l1 a2 a3 at_ hok.1 hok.2.1.1
 rw [if_pos (by rw [cv, hin]; rfl)] at hR
 have hlen : ∀ i : Int, 0 ≤ at_ + i → at_ + i < ((l0.length / 64 : Nat) : Int) → (dRd l0 l1 (at_ + i)).length = 64 := fun i h0 h1 => dRd_len l0 l1 _ h0 (by omega) f3 (fun x hx => (f7 x hx).2.2)
 have hbyt : ∀ i : Int, byteL (dRd l0 l1 (at_ + i)) := fun i => dRd_bytes l0 l1 _ hok.2.2.1 hok.2.2.2
 have hl := hlen 0 (by omega) (by omega)
 have hb := hbyt 0
 rw [Int.add_zero] at hl hb
 have hg := get2_ev _ hb hl 6 (by omega)
 have hkb := (iget2 _ hb hl 6 (by omega)).2
 refine Ev.step (fun k => by rw [spec_ReadRec.j0, if_neg (by decide)]) ?_
 refine Ev.bind hR ?_
 refine Ev.congr (fun k => by rw [if_pos (by decide), if_pos (by omega)]) ?_
 refine Ev.bind hg ?_
 generalize getN (dRd l0 l1 at_) 6 = kk at hkb
 by_cases c1 : kk < 1
 ·rw [if_pos (Or.inl c1)]
  exact Ev.congr (fun k => if_pos c1) (hz1 kk)
 refine Ev.congr (fun k => by rw [if_neg c1, spec_l1Sectors.f, hsec, Option.bind_some, show wrap64 (at_ + kk) = at_ + kk from by unfold wrap64; omega]) ?_
 by_cases c2 : at_ + kk > ((l0.length / 64 : Nat) : Int)
 ·rw [if_pos (Or.inr (by omega))]
  exact Ev.congr (fun k => by rw [decide_eq_true c2]) (hz1 kk)
 rw [if_neg (by omega)]
 refine Ev.congr (fun k => by rw [decide_eq_false c2]) ?_
 refine Ev.step (fun k => by rw [spec_ReadRec.j1, if_neg (by decide)]) ?_
 obtain ⟨K, rfl⟩ : ∃ K : Nat, kk = K := ⟨kk.toNat, by omega⟩
 have hL := specRR_loop hc l0 l1 a2 a3 at_ seq hok cv hs K (by omega) (by omega) K 0 [] [] (by omega) (by simp) (by simp) (fun y hy => by simp at hy) (fun y hy => by simp at hy)
 rw [Int.toNat_natCast]
 have hS : ∀ i, i < K → (dRd l0 l1 (at_ + i)).length = 64 := fun i hi => hlen i (by omega) (by omega)
 have hn0 : ∀ i, i < K → 0 ≤ getN (dRd l0 l1 (at_ + i)) 8 := fun i hi => (iget2 _ (hbyt i) (hS i hi) 8 (by omega)).2.1
 suffices e : sLoop cr (fun j => dRd l0 l1 (at_ + j)) seq K K 0 [] [] = (match rrAcc (pcOf cr seq) l0 l1 at_ K K with
   | none => (false, [], 0)
   | some p => if p.length > 30000 then (false, [], 0) else (true, p, (K : Int))) by
  rw [e] at hL
  exact hL
 by_cases cw : ∃ j, j < K ∧ getN (dRd l0 l1 (at_ + j)) 8 > 48
 ·obtain ⟨j, hj, hw⟩ := cw
  rw [sLoop_bad cr _ seq K j hj hw K 0 [] [] (by omega) (by omega), rrAcc_bad j (by unfold rrBad; rw [decide_eq_true hw]; rfl) K hj]
 have hw : ∀ j, j < K → getN (dRd l0 l1 (at_ + j)) 8 ≤ 48 := fun j hj => by
  apply Int.not_lt.1
  exact fun h => cw ⟨j, hj, h⟩
 have ea := sLoop_all cr (fun j => dRd l0 l1 (at_ + j)) seq K hw K 0 (by omega)
 rw [show catN (fun j => cutN ((fun j : Nat => dRd l0 l1 (at_ + j)) j)) 0 = [] from rfl, show catN (fun j : Nat => dRd l0 l1 (at_ + j)) 0 = [] from rfl] at ea
 rw [ea]
 by_cases cb : ∀ j : Nat, j < K → rrBad (pcOf cr seq) K j (dRd l0 l1 (at_ + j)) = false
 ·rw [rrAcc_all K cb]
  have : (secsOf cr seq (catN (fun j => cutN (dRd l0 l1 (at_ + j))) K)).flatten = catN (fun j : Nat => dRd l0 l1 (at_ + j)) K := secs_of_good (cr := cr) (seq := seq) (S := fun j : Nat => dRd l0 l1 (at_ + j)) (K := K) (by omega) hS (fun i hi => ⟨hw i hi, hn0 i hi⟩) _ rfl cb
  rw [if_pos this]
 ·have : ¬ (secsOf cr seq (catN (fun j => cutN (dRd l0 l1 (at_ + j))) K)).flatten = catN (fun j : Nat => dRd l0 l1 (at_ + j)) K := fun h => cb (good_of_secs (cr := cr) (seq := seq) (S := fun j : Nat => dRd l0 l1 (at_ + j)) (K := K) (by omega) hS (fun i hi => ⟨hw i hi, hn0 i hi⟩) _ rfl h)
  rw [if_neg this]
  obtain ⟨j, hj⟩ := Classical.not_forall.1 cb
  obtain ⟨hj, hbad⟩ := Classical.not_imp.1 hj
  rw [rrAcc_bad j (by simpa using hbad) K hj]
  split <;> rfl

/-! ### impl_ReadRec: function 26, proved by hand -/
-- needs spec_ReadRec.f impl_ReadRec_any specRR_ev cPiece_eq crc_total pcOf RsOk
/-- The specification's answer, where the disk's numbers are bytes and its rows no longer than the laws bring. -/
def m_ReadRec.f (k : Nat) (l0 : List Int) (l1 : List S79) (a2 : Int) (a3 : Bool) (at_ seq : Int) : Option (Bool × List Int × Int) :=
 if l0.length ≤ 1048576 ∧ l1.length ≤ 1048576 ∧ l1.all (fun x => decide (x.f1.length ≤ 1048576) && x.f1.all (fun y => decide (0 ≤ y) && decide (y < 256))) = true ∧ l0.all (fun y => decide (0 ≤ y) && decide (y < 256)) = true then spec_ReadRec.f k l0 l1 a2 a3 at_ seq else none
theorem rsOk_of {l0 : List Int} {l1 : List S79} (h : l0.length ≤ 1048576 ∧ l1.length ≤ 1048576 ∧ l1.all (fun x => decide (x.f1.length ≤ 1048576) && x.f1.all (fun y => decide (0 ≤ y) && decide (y < 256))) = true ∧ l0.all (fun y => decide (0 ≤ y) && decide (y < 256)) = true) : RsOk l0 l1 := by
 obtain ⟨h1, h2, h3, h4⟩ := h
 simp only [List.all_eq_true, Bool.and_eq_true, decide_eq_true_eq] at h3 h4
 exact ⟨h1, ⟨h2, fun x hx => (h3 x hx).1⟩, h4, fun p hp => (h3 p hp).2⟩
theorem rsOk_to {l0 : List Int} {l1 : List S79} (h : RsOk l0 l1) : l0.length ≤ 1048576 ∧ l1.length ≤ 1048576 ∧ l1.all (fun x => decide (x.f1.length ≤ 1048576) && x.f1.all (fun y => decide (0 ≤ y) && decide (y < 256))) = true ∧ l0.all (fun y => decide (0 ≤ y) && decide (y < 256)) = true := by
 simp only [List.all_eq_true, Bool.and_eq_true, decide_eq_true_eq]
 exact ⟨h.1, h.2.1.1, fun x hx => ⟨h.2.1.2 x hx, h.2.2.2 x hx⟩, h.2.2.1⟩
theorem rounds_all {α : Type} {F : Nat → Nat → Option α} {v : Nat → α} : ∀ N : Nat, (∀ i, i < N → Ev (F i) (v i)) → ∃ k, ∀ k' i, k ≤ k' → i < N → F i k' = some (v i)
 | 0, _ => ⟨0, fun _ i _ hi => absurd hi (by omega)⟩
 | N + 1, h => by
   obtain ⟨k, hk⟩ := rounds_all N (fun i hi => h i (by omega))
   obtain ⟨k2, hk2⟩ := h N (by omega)
   refine ⟨k + k2, fun k' i hk' hi => ?_⟩
   by_cases e : i = N
   ·subst e; exact hk2 k' (by omega)
   ·exact hk k' i (by omega) (by omega)
theorem cPiece_ev {cr : List Int → Int} (hc : CrcOk cr) (seq : Int) (hs : gN seq = true) (i k : Int) (part : List Int) (h : part.length ≤ 48) : Ev (fun kc => cPiece kc seq i k part) (pcOf cr seq i k part) := by
 have hs : 1 ≤ seq ∧ seq ≤ 2000000000 := by unfold gN at hs; simpa using hs
 have := (hc _ (sec0_len seq i k part h)).1
 refine Ev.congr (fun kc => by rw [cPiece_eq kc seq i k part (by omega) (by omega) h]) ?_
 obtain ⟨k0, hk0⟩ := this
 exact ⟨k0, fun k' hk' => by have := hk0 k' hk'; dsimp only at this ⊢; rw [this]; rfl⟩

/-! ### spec_l2AreaSize: function 88 -/
def spec_l2AreaSize.f (l0_0 : List Int) (l0_1 : List (S79)) (a0_2 : Int) (a0_3 : Bool) : Option (Int) := (spec_l1Sectors.f l0_0 l0_1 a0_2 a0_3).bind fun t979 => (some (wrap64 (Int.tdiv (wrap64 (t979 - 2)) 2)))
set_option maxHeartbeats 8000000 in
set_option maxRecDepth 100000 in
theorem spec_l2AreaSize.calls (A0_0 : Option Addr) (c0_0 : Nat) (l0_0 : List Int) (A0_1 : Option Addr) (c0_1 : Nat) (l0_1 : List (S79)) (a0_2 : Int) (a0_3 : Bool) (r : Int) (w : World) (hr0_0 : Kd.C (Kd.int .u8) w A0_0 l0_0.length l0_0) (hc0_0 : l0_0.length ≤ c0_0) (hr0_1 : Kd.C k79 w A0_1 l0_1.length l0_1) (hc0_1 : l0_1.length ≤ c0_1) (h : spec_l2AreaSize.f l0_0 l0_1 a0_2 a0_3 = some r) :
  Calls Try.prog 88 #[.agg #[.slice A0_0 l0_0.length c0_0, .slice A0_1 l0_1.length c0_1, .int .i64 a0_2, .bool a0_3]] w fun e w' => e = .returned (.int .i64 r) ∧ Below w.heap.size w w' := by
 have hu25 := Try.underlying25
 have HR0_0 := Aside0.mk hr0_0
 have HC0_0 := Aside0.mk hc0_0
 clear hr0_0 hc0_0
 have HR0_1 := Aside0.mk hr0_1
 have HC0_1 := Aside0.mk hc0_1
 clear hr0_1 hc0_1
 have HB := Aside0.mk (Below.refl w.heap.size w)
 have H : ((spec_l1Sectors.f l0_0 l0_1 a0_2 a0_3).bind fun t979 => (some (wrap64 (Int.tdiv (wrap64 (t979 - 2)) 2)))) = some r := h
 clear h
 replace H := Option.bind_eq_some_iff.mp H
 obtain ⟨t979, A20, H⟩ := H
 replace H : (some (wrap64 (Int.tdiv (wrap64 (t979 - 2)) 2))) = some r := H
 have A2 := Aside0.mk A20
 clear A20
 obtain rfl := Option.some.inj H
 go_enter Try.func88, Try.ntmps88
 go_wp2_with (first | ((with_reducible refine gate_dst (N := 1) rfl ?_); refine box_event ?hg (N := 1) ?hd (cs := #[.slice A0_0 l0_0.length c0_0, .slice A0_1 l0_1.length c0_1, .int .i64 a0_2, .bool a0_3]) (t := 25) ?hr ?_; (case hd => rfl); (case hg => rfl); (case hr => first | (go_simp; done) | (go_simp; rfl)); intro gb978 hg w3 hbox hb; have n0_ := Aside0.mk (below_step (by repeat (first | (with_reducible first | exact HB.out | apply below_alloc | apply pw_below_drewN | apply below_drew1) | exact HB.out)) hb); have n1_ := Aside0.mk (hbox); have n2_ := Aside0.mk ((by rw [hg]; exact (below_size (by repeat (first | (with_reducible first | exact HB.out | apply below_alloc | apply pw_below_drewN | apply below_drew1) | exact HB.out))) : w.heap.size ≤ gb978)); have n3_ := Aside0.mk ((by rw [hg]; exact (below_size (by repeat (first | (with_reducible first | exact HB.out | apply below_alloc | apply pw_below_drewN | apply below_drew1) | exact HB.out))) : w.heap.size ≤ gb978)); clear HB; have HB := n0_; have BK978 := n1_; have GW978 := n2_; have GE978 := n3_; clear n0_ n1_ n2_ n3_; clear hb hbox hg; have hcz4_0 : w3.cell? ⟨gb978, 0, none⟩ = some (.slice A0_0 l0_0.length c0_0) := (blk_cell BK978.out 0).trans rfl; have hcz4_1 : w3.cell? ⟨gb978, 1, none⟩ = some (.slice A0_1 l0_1.length c0_1) := (blk_cell BK978.out 1).trans rfl; have hcz4_2 : w3.cell? ⟨gb978, 2, none⟩ = some (.int .i64 a0_2) := (blk_cell BK978.out 2).trans rfl; have hcz4_3 : w3.cell? ⟨gb978, 3, none⟩ = some (.bool a0_3) := (blk_cell BK978.out 3).trans rfl; have hfz4_0 := blk_frozen BK978.out 0; have hfz4_1 := blk_frozen BK978.out 1; have hfz4_2 := blk_frozen BK978.out 2; have hfz4_3 := blk_frozen BK978.out 3) | ((with_reducible refine gate_callee (f := 51) rfl ?_); refine goesL_ (some 4) rfl rfl Try.func51 (by kernel_rfl) rfl #[.agg #[.slice A0_0 l0_0.length c0_0, .slice A0_1 l0_1.length c0_1, .int .i64 a0_2, .bool a0_3]] rfl (by (try simp only [List.map_toArray, List.map_cons, List.map_nil]); first | done | rfl | (simp only [List.length_drop, List.length_take]; rfl)) ?_; (with_reducible refine (spec_l1Sectors.calls _ _ l0_0 _ _ l0_1 a0_2 a0_3 t979 _ ?side1 ?side2 ?side3 ?side4 A2.out).mono ?_); (case side1 => repeat (first | exact (Kd.C_below HR0_0.out HB.out) | (with_reducible refine Kd.C_alloc ?_ _) | (with_reducible refine Kd.C_drewN ?_ _) | (with_reducible refine Kd.C_drew ?_))); (case side2 => exact HC0_0.out); (case side3 => repeat (first | exact (Kd.C_below HR0_1.out HB.out) | (with_reducible refine Kd.C_alloc ?_ _) | (with_reducible refine Kd.C_drewN ?_ _) | (with_reducible refine Kd.C_drew ?_))); (case side4 => exact HC0_1.out); rintro e w5 ⟨rfl, hb⟩; refine ⟨_, rfl, ?_⟩; have n0_ := Aside0.mk (blk_below (g := gb978) (o := .cells #[.slice A0_0 l0_0.length c0_0, .slice A0_1 l0_1.length c0_1, .int .i64 a0_2, .bool a0_3] 25 (0, 0)) (by (with_reducible repeat (first | refine blk_drewN ?_ _ | refine blk_drew ?_ | refine blk_alloc ?_ _)); exact BK978.out) hb); have n1_ := Aside0.mk (below_step (by repeat (first | (with_reducible first | exact HB.out | apply below_alloc | apply pw_below_drewN | apply below_drew1 | refine below_set ?_ GE978.out) | exact HB.out)) hb); clear BK978; clear HB; have BK978 := n0_; have HB := n1_; clear n0_ n1_; (try clear hb); (try clear hb2); (try clear hk); (try clear hi)))
 go_ret
 exact ⟨by first | rfl | (simp [errW_none, errW_some] <;> rfl) | (simp [*, errW_none, errW_some] <;> rfl), by repeat (first | (with_reducible first | exact HB.out | apply below_alloc | apply pw_below_drewN | apply below_drew1 | refine below_set ?_ GE978.out) | exact HB.out)⟩

/-! ### spec_l2AreaFrom: function 89 -/
def spec_l2AreaFrom.f (l0_0 : List Int) (l0_1 : List (S79)) (a0_2 : Int) (a0_3 : Bool) (a1 : Int) : Option (Int) := (spec_l2AreaSize.f l0_0 l0_1 a0_2 a0_3).bind fun t981 => (some (wrap64 (2 + (wrap64 (a1 * t981)))))
set_option maxHeartbeats 8000000 in
set_option maxRecDepth 100000 in
theorem spec_l2AreaFrom.calls (A0_0 : Option Addr) (c0_0 : Nat) (l0_0 : List Int) (A0_1 : Option Addr) (c0_1 : Nat) (l0_1 : List (S79)) (a0_2 : Int) (a0_3 : Bool) (a1 : Int) (r : Int) (w : World) (hr0_0 : Kd.C (Kd.int .u8) w A0_0 l0_0.length l0_0) (hc0_0 : l0_0.length ≤ c0_0) (hr0_1 : Kd.C k79 w A0_1 l0_1.length l0_1) (hc0_1 : l0_1.length ≤ c0_1) (h : spec_l2AreaFrom.f l0_0 l0_1 a0_2 a0_3 a1 = some r) :
  Calls Try.prog 89 #[.agg #[.slice A0_0 l0_0.length c0_0, .slice A0_1 l0_1.length c0_1, .int .i64 a0_2, .bool a0_3], .int .i64 a1] w fun e w' => e = .returned (.int .i64 r) ∧ Below w.heap.size w w' := by
 have hu25 := Try.underlying25
 have HR0_0 := Aside0.mk hr0_0
 have HC0_0 := Aside0.mk hc0_0
 clear hr0_0 hc0_0
 have HR0_1 := Aside0.mk hr0_1
 have HC0_1 := Aside0.mk hc0_1
 clear hr0_1 hc0_1
 have HB := Aside0.mk (Below.refl w.heap.size w)
 have H : ((spec_l2AreaSize.f l0_0 l0_1 a0_2 a0_3).bind fun t981 => (some (wrap64 (2 + (wrap64 (a1 * t981)))))) = some r := h
 clear h
 replace H := Option.bind_eq_some_iff.mp H
 obtain ⟨t981, A30, H⟩ := H
 replace H : (some (wrap64 (2 + (wrap64 (a1 * t981))))) = some r := H
 have A3 := Aside0.mk A30
 clear A30
 obtain rfl := Option.some.inj H
 go_enter Try.func89, Try.ntmps89
 go_wp2_with (first | ((with_reducible refine gate_dst (N := 2) rfl ?_); refine box_event ?hg (N := 2) ?hd (cs := #[.slice A0_0 l0_0.length c0_0, .slice A0_1 l0_1.length c0_1, .int .i64 a0_2, .bool a0_3]) (t := 25) ?hr ?_; (case hd => rfl); (case hg => rfl); (case hr => first | (go_simp; done) | (go_simp; rfl)); intro gb980 hg w4 hbox hb; have n0_ := Aside0.mk (below_step (by repeat (first | (with_reducible first | exact HB.out | apply below_alloc | apply pw_below_drewN | apply below_drew1) | exact HB.out)) hb); have n1_ := Aside0.mk (hbox); have n2_ := Aside0.mk ((by rw [hg]; exact (below_size (by repeat (first | (with_reducible first | exact HB.out | apply below_alloc | apply pw_below_drewN | apply below_drew1) | exact HB.out))) : w.heap.size ≤ gb980)); have n3_ := Aside0.mk ((by rw [hg]; exact (below_size (by repeat (first | (with_reducible first | exact HB.out | apply below_alloc | apply pw_below_drewN | apply below_drew1) | exact HB.out))) : w.heap.size ≤ gb980)); clear HB; have HB := n0_; have BK980 := n1_; have GW980 := n2_; have GE980 := n3_; clear n0_ n1_ n2_ n3_; clear hb hbox hg; have hcz5_0 : w4.cell? ⟨gb980, 0, none⟩ = some (.slice A0_0 l0_0.length c0_0) := (blk_cell BK980.out 0).trans rfl; have hcz5_1 : w4.cell? ⟨gb980, 1, none⟩ = some (.slice A0_1 l0_1.length c0_1) := (blk_cell BK980.out 1).trans rfl; have hcz5_2 : w4.cell? ⟨gb980, 2, none⟩ = some (.int .i64 a0_2) := (blk_cell BK980.out 2).trans rfl; have hcz5_3 : w4.cell? ⟨gb980, 3, none⟩ = some (.bool a0_3) := (blk_cell BK980.out 3).trans rfl; have hfz5_0 := blk_frozen BK980.out 0; have hfz5_1 := blk_frozen BK980.out 1; have hfz5_2 := blk_frozen BK980.out 2; have hfz5_3 := blk_frozen BK980.out 3) | ((with_reducible refine gate_callee (f := 88) rfl ?_); refine goesL_ (some 7) rfl rfl Try.func88 (by kernel_rfl) rfl #[.agg #[.slice A0_0 l0_0.length c0_0, .slice A0_1 l0_1.length c0_1, .int .i64 a0_2, .bool a0_3]] rfl (by (try simp only [List.map_toArray, List.map_cons, List.map_nil]); first | done | rfl | (simp only [List.length_drop, List.length_take]; rfl)) ?_; (with_reducible refine (spec_l2AreaSize.calls _ _ l0_0 _ _ l0_1 a0_2 a0_3 t981 _ ?side1 ?side2 ?side3 ?side4 A3.out).mono ?_); (case side1 => repeat (first | exact (Kd.C_below HR0_0.out HB.out) | (with_reducible refine Kd.C_alloc ?_ _) | (with_reducible refine Kd.C_drewN ?_ _) | (with_reducible refine Kd.C_drew ?_))); (case side2 => exact HC0_0.out); (case side3 => repeat (first | exact (Kd.C_below HR0_1.out HB.out) | (with_reducible refine Kd.C_alloc ?_ _) | (with_reducible refine Kd.C_drewN ?_ _) | (with_reducible refine Kd.C_drew ?_))); (case side4 => exact HC0_1.out); rintro e w6 ⟨rfl, hb⟩; refine ⟨_, rfl, ?_⟩; have n0_ := Aside0.mk (blk_below (g := gb980) (o := .cells #[.slice A0_0 l0_0.length c0_0, .slice A0_1 l0_1.length c0_1, .int .i64 a0_2, .bool a0_3] 25 (0, 0)) (by (with_reducible repeat (first | refine blk_drewN ?_ _ | refine blk_drew ?_ | refine blk_alloc ?_ _)); exact BK980.out) hb); have n1_ := Aside0.mk (below_step (by repeat (first | (with_reducible first | exact HB.out | apply below_alloc | apply pw_below_drewN | apply below_drew1 | refine below_set ?_ GE980.out) | exact HB.out)) hb); clear BK980; clear HB; have BK980 := n0_; have HB := n1_; clear n0_ n1_; (try clear hb); (try clear hb2); (try clear hk); (try clear hi)))
 go_ret
 exact ⟨by first | rfl | (simp [errW_none, errW_some] <;> rfl) | (simp [*, errW_none, errW_some] <;> rfl), by repeat (first | (with_reducible first | exact HB.out | apply below_alloc | apply pw_below_drewN | apply below_drew1 | refine below_set ?_ GE980.out) | exact HB.out)⟩

/-! ### impl_Disk_area: function 91 -/
def impl_Disk_area.f (l0_0 : List Int) (l0_1 : List (S79)) (a0_2 : Int) (a0_3 : Bool) : Option (Int) := (impl_Disk_sectors.f l0_0 l0_1 a0_2 a0_3).bind fun t1001 => (some (wrap64 (Int.tdiv (wrap64 (t1001 - 2)) 2)))
set_option maxHeartbeats 8000000 in
set_option maxRecDepth 100000 in
theorem impl_Disk_area.calls (A0_0 : Option Addr) (c0_0 : Nat) (l0_0 : List Int) (A0_1 : Option Addr) (c0_1 : Nat) (l0_1 : List (S79)) (a0_2 : Int) (a0_3 : Bool) (r : Int) (w : World) (hr0_0 : Kd.C (Kd.int .u8) w A0_0 l0_0.length l0_0) (hc0_0 : l0_0.length ≤ c0_0) (hr0_1 : Kd.C k79 w A0_1 l0_1.length l0_1) (hc0_1 : l0_1.length ≤ c0_1) (h : impl_Disk_area.f l0_0 l0_1 a0_2 a0_3 = some r) :
  Calls Try.prog 91 #[.agg #[.slice A0_0 l0_0.length c0_0, .slice A0_1 l0_1.length c0_1, .int .i64 a0_2, .bool a0_3]] w fun e w' => e = .returned (.int .i64 r) ∧ Below w.heap.size w w' := by
 have hu25 := Try.underlying25
 have HR0_0 := Aside0.mk hr0_0
 have HC0_0 := Aside0.mk hc0_0
 clear hr0_0 hc0_0
 have HR0_1 := Aside0.mk hr0_1
 have HC0_1 := Aside0.mk hc0_1
 clear hr0_1 hc0_1
 have HB := Aside0.mk (Below.refl w.heap.size w)
 have H : ((impl_Disk_sectors.f l0_0 l0_1 a0_2 a0_3).bind fun t1001 => (some (wrap64 (Int.tdiv (wrap64 (t1001 - 2)) 2)))) = some r := h
 clear h
 replace H := Option.bind_eq_some_iff.mp H
 obtain ⟨t1001, A20, H⟩ := H
 replace H : (some (wrap64 (Int.tdiv (wrap64 (t1001 - 2)) 2))) = some r := H
 have A2 := Aside0.mk A20
 clear A20
 obtain rfl := Option.some.inj H
 go_enter Try.func91, Try.ntmps91
 go_wp2_with (first | ((with_reducible refine gate_dst (N := 1) rfl ?_); refine box_event ?hg (N := 1) ?hd (cs := #[.slice A0_0 l0_0.length c0_0, .slice A0_1 l0_1.length c0_1, .int .i64 a0_2, .bool a0_3]) (t := 25) ?hr ?_; (case hd => rfl); (case hg => rfl); (case hr => first | (go_simp; done) | (go_simp; rfl)); intro gb1000 hg w3 hbox hb; have n0_ := Aside0.mk (below_step (by repeat (first | (with_reducible first | exact HB.out | apply below_alloc | apply pw_below_drewN | apply below_drew1) | exact HB.out)) hb); have n1_ := Aside0.mk (hbox); have n2_ := Aside0.mk ((by rw [hg]; exact (below_size (by repeat (first | (with_reducible first | exact HB.out | apply below_alloc | apply pw_below_drewN | apply below_drew1) | exact HB.out))) : w.heap.size ≤ gb1000)); have n3_ := Aside0.mk ((by rw [hg]; exact (below_size (by repeat (first | (with_reducible first | exact HB.out | apply below_alloc | apply pw_below_drewN | apply below_drew1) | exact HB.out))) : w.heap.size ≤ gb1000)); clear HB; have HB := n0_; have BK1000 := n1_; have GW1000 := n2_; have GE1000 := n3_; clear n0_ n1_ n2_ n3_; clear hb hbox hg; have hcz4_0 : w3.cell? ⟨gb1000, 0, none⟩ = some (.slice A0_0 l0_0.length c0_0) := (blk_cell BK1000.out 0).trans rfl; have hcz4_1 : w3.cell? ⟨gb1000, 1, none⟩ = some (.slice A0_1 l0_1.length c0_1) := (blk_cell BK1000.out 1).trans rfl; have hcz4_2 : w3.cell? ⟨gb1000, 2, none⟩ = some (.int .i64 a0_2) := (blk_cell BK1000.out 2).trans rfl; have hcz4_3 : w3.cell? ⟨gb1000, 3, none⟩ = some (.bool a0_3) := (blk_cell BK1000.out 3).trans rfl; have hfz4_0 := blk_frozen BK1000.out 0; have hfz4_1 := blk_frozen BK1000.out 1; have hfz4_2 := blk_frozen BK1000.out 2; have hfz4_3 := blk_frozen BK1000.out 3) | ((with_reducible refine gate_callee (f := 52) rfl ?_); refine goesL_ (some 4) rfl rfl Try.func52 (by kernel_rfl) rfl #[.agg #[.slice A0_0 l0_0.length c0_0, .slice A0_1 l0_1.length c0_1, .int .i64 a0_2, .bool a0_3]] rfl (by (try simp only [List.map_toArray, List.map_cons, List.map_nil]); first | done | rfl | (simp only [List.length_drop, List.length_take]; rfl)) ?_; (with_reducible refine (impl_Disk_sectors.calls _ _ l0_0 _ _ l0_1 a0_2 a0_3 t1001 _ ?side1 ?side2 ?side3 ?side4 A2.out).mono ?_); (case side1 => repeat (first | exact (Kd.C_below HR0_0.out HB.out) | (with_reducible refine Kd.C_alloc ?_ _) | (with_reducible refine Kd.C_drewN ?_ _) | (with_reducible refine Kd.C_drew ?_))); (case side2 => exact HC0_0.out); (case side3 => repeat (first | exact (Kd.C_below HR0_1.out HB.out) | (with_reducible refine Kd.C_alloc ?_ _) | (with_reducible refine Kd.C_drewN ?_ _) | (with_reducible refine Kd.C_drew ?_))); (case side4 => exact HC0_1.out); rintro e w5 ⟨rfl, hb⟩; refine ⟨_, rfl, ?_⟩; have n0_ := Aside0.mk (blk_below (g := gb1000) (o := .cells #[.slice A0_0 l0_0.length c0_0, .slice A0_1 l0_1.length c0_1, .int .i64 a0_2, .bool a0_3] 25 (0, 0)) (by (with_reducible repeat (first | refine blk_drewN ?_ _ | refine blk_drew ?_ | refine blk_alloc ?_ _)); exact BK1000.out) hb); have n1_ := Aside0.mk (below_step (by repeat (first | (with_reducible first | exact HB.out | apply below_alloc | apply pw_below_drewN | apply below_drew1 | refine below_set ?_ GE1000.out) | exact HB.out)) hb); clear BK1000; clear HB; have BK1000 := n0_; have HB := n1_; clear n0_ n1_; (try clear hb); (try clear hb2); (try clear hk); (try clear hi)))
 go_ret
 exact ⟨by first | rfl | (simp [errW_none, errW_some] <;> rfl) | (simp [*, errW_none, errW_some] <;> rfl), by repeat (first | (with_reducible first | exact HB.out | apply below_alloc | apply pw_below_drewN | apply below_drew1 | refine below_set ?_ GE1000.out) | exact HB.out)⟩

/-! ### impl_Disk_begin: function 90 -/
def impl_Disk_begin.f (l0_0 : List Int) (l0_1 : List (S79)) (a0_2 : Int) (a0_3 : Bool) (a1 : Int) : Option (Int) := (impl_Disk_area.f l0_0 l0_1 a0_2 a0_3).bind fun t1003 => (some (wrap64 (2 + (wrap64 (a1 * t1003)))))
set_option maxHeartbeats 8000000 in
set_option maxRecDepth 100000 in
theorem impl_Disk_begin.calls (A0_0 : Option Addr) (c0_0 : Nat) (l0_0 : List Int) (A0_1 : Option Addr) (c0_1 : Nat) (l0_1 : List (S79)) (a0_2 : Int) (a0_3 : Bool) (a1 : Int) (r : Int) (w : World) (hr0_0 : Kd.C (Kd.int .u8) w A0_0 l0_0.length l0_0) (hc0_0 : l0_0.length ≤ c0_0) (hr0_1 : Kd.C k79 w A0_1 l0_1.length l0_1) (hc0_1 : l0_1.length ≤ c0_1) (h : impl_Disk_begin.f l0_0 l0_1 a0_2 a0_3 a1 = some r) :
  Calls Try.prog 90 #[.agg #[.slice A0_0 l0_0.length c0_0, .slice A0_1 l0_1.length c0_1, .int .i64 a0_2, .bool a0_3], .int .i64 a1] w fun e w' => e = .returned (.int .i64 r) ∧ Below w.heap.size w w' := by
 have hu25 := Try.underlying25
 have HR0_0 := Aside0.mk hr0_0
 have HC0_0 := Aside0.mk hc0_0
 clear hr0_0 hc0_0
 have HR0_1 := Aside0.mk hr0_1
 have HC0_1 := Aside0.mk hc0_1
 clear hr0_1 hc0_1
 have HB := Aside0.mk (Below.refl w.heap.size w)
 have H : ((impl_Disk_area.f l0_0 l0_1 a0_2 a0_3).bind fun t1003 => (some (wrap64 (2 + (wrap64 (a1 * t1003)))))) = some r := h
 clear h
 replace H := Option.bind_eq_some_iff.mp H
 obtain ⟨t1003, A30, H⟩ := H
 replace H : (some (wrap64 (2 + (wrap64 (a1 * t1003))))) = some r := H
 have A3 := Aside0.mk A30
 clear A30
 obtain rfl := Option.some.inj H
 go_enter Try.func90, Try.ntmps90
 go_wp2_with (first | ((with_reducible refine gate_dst (N := 2) rfl ?_); refine box_event ?hg (N := 2) ?hd (cs := #[.slice A0_0 l0_0.length c0_0, .slice A0_1 l0_1.length c0_1, .int .i64 a0_2, .bool a0_3]) (t := 25) ?hr ?_; (case hd => rfl); (case hg => rfl); (case hr => first | (go_simp; done) | (go_simp; rfl)); intro gb1002 hg w4 hbox hb; have n0_ := Aside0.mk (below_step (by repeat (first | (with_reducible first | exact HB.out | apply below_alloc | apply pw_below_drewN | apply below_drew1) | exact HB.out)) hb); have n1_ := Aside0.mk (hbox); have n2_ := Aside0.mk ((by rw [hg]; exact (below_size (by repeat (first | (with_reducible first | exact HB.out | apply below_alloc | apply pw_below_drewN | apply below_drew1) | exact HB.out))) : w.heap.size ≤ gb1002)); have n3_ := Aside0.mk ((by rw [hg]; exact (below_size (by repeat (first | (with_reducible first | exact HB.out | apply below_alloc | apply pw_below_drewN | apply below_drew1) | exact HB.out))) : w.heap.size ≤ gb1002)); clear HB; have HB := n0_; have BK1002 := n1_; have GW1002 := n2_; have GE1002 := n3_; clear n0_ n1_ n2_ n3_; clear hb hbox hg; have hcz5_0 : w4.cell? ⟨gb1002, 0, none⟩ = some (.slice A0_0 l0_0.length c0_0) := (blk_cell BK1002.out 0).trans rfl; have hcz5_1 : w4.cell? ⟨gb1002, 1, none⟩ = some (.slice A0_1 l0_1.length c0_1) := (blk_cell BK1002.out 1).trans rfl; have hcz5_2 : w4.cell? ⟨gb1002, 2, none⟩ = some (.int .i64 a0_2) := (blk_cell BK1002.out 2).trans rfl; have hcz5_3 : w4.cell? ⟨gb1002, 3, none⟩ = some (.bool a0_3) := (blk_cell BK1002.out 3).trans rfl; have hfz5_0 := blk_frozen BK1002.out 0; have hfz5_1 := blk_frozen BK1002.out 1; have hfz5_2 := blk_frozen BK1002.out 2; have hfz5_3 := blk_frozen BK1002.out 3) | ((with_reducible refine gate_callee (f := 91) rfl ?_); refine goesL_ (some 7) rfl rfl Try.func91 (by kernel_rfl) rfl #[.agg #[.slice A0_0 l0_0.length c0_0, .slice A0_1 l0_1.length c0_1, .int .i64 a0_2, .bool a0_3]] rfl (by (try simp only [List.map_toArray, List.map_cons, List.map_nil]); first | done | rfl | (simp only [List.length_drop, List.length_take]; rfl)) ?_; (with_reducible refine (impl_Disk_area.calls _ _ l0_0 _ _ l0_1 a0_2 a0_3 t1003 _ ?side1 ?side2 ?side3 ?side4 A3.out).mono ?_); (case side1 => repeat (first | exact (Kd.C_below HR0_0.out HB.out) | (with_reducible refine Kd.C_alloc ?_ _) | (with_reducible refine Kd.C_drewN ?_ _) | (with_reducible refine Kd.C_drew ?_))); (case side2 => exact HC0_0.out); (case side3 => repeat (first | exact (Kd.C_below HR0_1.out HB.out) | (with_reducible refine Kd.C_alloc ?_ _) | (with_reducible refine Kd.C_drewN ?_ _) | (with_reducible refine Kd.C_drew ?_))); (case side4 => exact HC0_1.out); rintro e w6 ⟨rfl, hb⟩; refine ⟨_, rfl, ?_⟩; have n0_ := Aside0.mk (blk_below (g := gb1002) (o := .cells #[.slice A0_0 l0_0.length c0_0, .slice A0_1 l0_1.length c0_1, .int .i64 a0_2, .bool a0_3] 25 (0, 0)) (by (with_reducible repeat (first | refine blk_drewN ?_ _ | refine blk_drew ?_ | refine blk_alloc ?_ _)); exact BK1002.out) hb); have n1_ := Aside0.mk (below_step (by repeat (first | (with_reducible first | exact HB.out | apply below_alloc | apply pw_below_drewN | apply below_drew1 | refine below_set ?_ GE1002.out) | exact HB.out)) hb); clear BK1002; clear HB; have BK1002 := n0_; have HB := n1_; clear n0_ n1_; (try clear hb); (try clear hb2); (try clear hk); (try clear hi)))
 go_ret
 exact ⟨by first | rfl | (simp [errW_none, errW_some] <;> rfl) | (simp [*, errW_none, errW_some] <;> rfl), by repeat (first | (with_reducible first | exact HB.out | apply below_alloc | apply pw_below_drewN | apply below_drew1 | refine below_set ?_ GE1002.out) | exact HB.out)⟩

/-! ### spec_ReadRecCalls: its contract, by hand -/
-- needs spec_ReadRec.f
def spec_ReadRec.gT17 : Bool × List (List Nat × List Nat) := (true, [([], []), ([0], [0]), ([1], [1]), ([2], [2]), ([3], [3]), ([3], [3]), ([4, 5, 3, 3], [3, 4, 5]), ([6, 6, 3], [3, 6]), ([7, 3], [3, 7]), ([3], [3]), ([9, 3], [3, 9]), ([8, 10, 3], [3, 8, 10]), ([3, 11], [3, 11])])
def spec_ReadRec.gB17 : List Nat := [0, 1, 3, 7, 15, 15, 63, 127, 255, 15, 527, 2047, 4095]
theorem spec_ReadRec.gtab17 : rtab .any (opsOf Try.f25 17) = spec_ReadRec.gT17 := by kernel_rfl
theorem spec_ReadRec.gbits17 : waitsOk spec_ReadRec.gT17.2 spec_ReadRec.gB17 = true := by kernel_rfl
set_option maxHeartbeats 8000000 in
set_option maxRecDepth 100000 in
theorem spec_ReadRec.calls (k : Nat) (A0_0 : Option Addr) (c0_0 : Nat) (l0_0 : List Int) (A0_1 : Option Addr) (c0_1 : Nat) (l0_1 : List (S79)) (a0_2 : Int) (a0_3 : Bool) (a1 : Int) (a2 : Int) (r1 : Bool) (r2 : List Int) (r3 : Int) (w : World) (hr0_0 : Kd.C (Kd.int .u8) w A0_0 l0_0.length l0_0) (hc0_0 : l0_0.length ≤ c0_0) (hr0_1 : Kd.C k79 w A0_1 l0_1.length l0_1) (hc0_1 : l0_1.length ≤ c0_1) (h : spec_ReadRec.f k l0_0 l0_1 a0_2 a0_3 a1 a2 = some (r1, r2, r3)) :
   Calls Try.prog 25 #[.agg #[.slice A0_0 l0_0.length c0_0, .slice A0_1 l0_1.length c0_1, .int .i64 a0_2, .bool a0_3], .int .i64 a1, .int .i64 a2] w fun e w' => ∃ v1_ : Value, e = .returned (.agg #[.bool r1, v1_, .int .i64 r3]) ∧ Kd.R (Kd.int .u8) 5 w' w.heap.size (fun _ => True) v1_ r2 ∧ Below w.heap.size w w' := by
 have hu25 := Try.underlying25
 have hu49 := Try.underlying49
 have HR0_0 := Aside0.mk hr0_0
 have HC0_0 := Aside0.mk hc0_0
 clear hr0_0 hc0_0
 have HR0_1 := Aside0.mk hr0_1
 have HC0_1 := Aside0.mk hc0_1
 clear hr0_1 hc0_1
 have HB := Aside0.mk (Below.refl w.heap.size w)
 have H : ((spec_ValidDisk.f k l0_0 l0_1 a0_2 a0_3).bind fun t642 => (if t642 = true then ((spec_l2Number.f a2).bind fun t643 => (if t643 = true then (if a1 < 0 then (spec_ReadRec.j0 k a1 a2 true l0_0 l0_1 a0_2 a0_3) else ((spec_l1Sectors.f l0_0 l0_1 a0_2 a0_3).bind fun t644 => (spec_ReadRec.j0 k a1 a2 (decide (a1 ≥ t644)) l0_0 l0_1 a0_2 a0_3))) else (spec_ReadRec.j0 k a1 a2 true l0_0 l0_1 a0_2 a0_3))) else (spec_ReadRec.j0 k a1 a2 true l0_0 l0_1 a0_2 a0_3))) = some (r1, r2, r3) := h
 clear h
 have HC4 := Aside0.mk H
 clear H
 go_enter Try.func25, Try.ntmps25
 go_upto_region 1 with (first | ((with_reducible refine gate_dst (N := 3) rfl ?_); refine box_event ?hg (N := 3) ?hd (cs := #[.slice A0_0 l0_0.length c0_0, .slice A0_1 l0_1.length c0_1, .int .i64 a0_2, .bool a0_3]) (t := 25) ?hr ?_; (case hd => rfl); (case hg => rfl); (case hr => first | (go_simp; done) | (go_simp; rfl)); intro gb640 hg w5 hbox hb; have n0_ := Aside0.mk (below_step (by repeat (first | (with_reducible first | exact HB.out | apply below_alloc | apply pw_below_drewN | apply below_drew1) | exact HB.out)) hb); have n1_ := Aside0.mk (hbox); have n2_ := Aside0.mk ((by rw [hg]; exact (below_size (by repeat (first | (with_reducible first | exact HB.out | apply below_alloc | apply pw_below_drewN | apply below_drew1) | exact HB.out))) : w.heap.size ≤ gb640)); have n3_ := Aside0.mk ((by rw [hg]; exact (below_size (by repeat (first | (with_reducible first | exact HB.out | apply below_alloc | apply pw_below_drewN | apply below_drew1) | exact HB.out))) : w.heap.size ≤ gb640)); clear HB; have HB := n0_; have BK640 := n1_; have GW640 := n2_; have GE640 := n3_; clear n0_ n1_ n2_ n3_; clear hb hbox hg) | ((with_reducible refine gate_dst (N := 6) rfl ?_); refine box_event ?hg (N := 6) ?hd (cs := #[.bool false, .slice none 0 0, .int .i64 0]) (t := 49) ?hr ?_; (case hd => rfl); (case hg => rfl); (case hr => first | (go_simp; done) | (go_simp; rfl)); intro gb641 hg w6 hbox hb; have n0_ := Aside0.mk (blk_below (g := gb640) (o := .cells #[.slice A0_0 l0_0.length c0_0, .slice A0_1 l0_1.length c0_1, .int .i64 a0_2, .bool a0_3] 25 (0, 0)) (by (with_reducible repeat (first | refine blk_drewN ?_ _ | refine blk_drew ?_ | refine blk_alloc ?_ _)); exact BK640.out) hb); have n1_ := Aside0.mk (below_step (by repeat (first | (with_reducible first | exact HB.out | apply below_alloc | apply pw_below_drewN | apply below_drew1 | refine below_set ?_ GE640.out) | exact HB.out)) hb); have n2_ := Aside0.mk (hbox); have n3_ := Aside0.mk ((by rw [hg]; exact (below_size (by repeat (first | (with_reducible first | exact HB.out | apply below_alloc | apply pw_below_drewN | apply below_drew1 | refine below_set ?_ GE640.out) | exact HB.out))) : w.heap.size ≤ gb641)); have n4_ := Aside0.mk ((by rw [hg]; exact (below_size (by repeat (first | (with_reducible first | exact HB.out | apply below_alloc | apply pw_below_drewN | apply below_drew1 | refine below_set ?_ GE640.out) | exact HB.out))) : w.heap.size ≤ gb641)); have n5_ := Aside0.mk ((by rw [hg]; exact Nat.ne_of_lt (blk_lt (g := gb640) (o := .cells #[.slice A0_0 l0_0.length c0_0, .slice A0_1 l0_1.length c0_1, .int .i64 a0_2, .bool a0_3] 25 (0, 0)) (by (with_reducible repeat (first | refine blk_drewN ?_ _ | refine blk_drew ?_ | refine blk_alloc ?_ _)); exact BK640.out)) : gb640 ≠ gb641)); have n6_ := Aside0.mk ((by rw [hg]; exact Nat.ne_of_gt (blk_lt (g := gb640) (o := .cells #[.slice A0_0 l0_0.length c0_0, .slice A0_1 l0_1.length c0_1, .int .i64 a0_2, .bool a0_3] 25 (0, 0)) (by (with_reducible repeat (first | refine blk_drewN ?_ _ | refine blk_drew ?_ | refine blk_alloc ?_ _)); exact BK640.out)) : gb641 ≠ gb640)); clear BK640; clear HB; have BK640 := n0_; have HB := n1_; have BK641 := n2_; have GW641 := n3_; have GE641 := n4_; have NB640_641 := n5_; have NB641_640 := n6_; clear n0_ n1_ n2_ n3_ n4_ n5_ n6_; clear hb hbox hg))
 (try simp only [Act.put, List.setIfInBounds_toArray, List.set_cons_zero, List.set_cons_succ])
 go_cut [30] (fun v30 wc => ∃ (kq : Nat) (x30_3 : Bool), v30 = .bool x30_3 ∧ Aside0 (spec_ReadRec.j0 kq a1 a2 x30_3 l0_0 l0_1 a0_2 a0_3 = some (r1, r2, r3)) ∧ Aside0 (kq ≤ k) ∧ Aside0 (wc.heap[gb640]? = some (.cells #[(.slice A0_0 l0_0.length c0_0), (.slice A0_1 l0_1.length c0_1), .int .i64 a0_2, .bool a0_3] 25 (0, 0))) ∧ Aside0 (wc.heap[gb641]? = some (.cells #[.bool false, (.slice none 0 0), .int .i64 0] 49 (0, 0))) ∧ Aside0 (Below w.heap.size w wc))
 case first =>
   have H := HC4.out
   clear HC4
   replace H := Option.bind_eq_some_iff.mp H
   obtain ⟨t642, A70, H⟩ := H
   replace H : (if t642 = true then ((spec_l2Number.f a2).bind fun t643 => (if t643 = true then (if a1 < 0 then (spec_ReadRec.j0 k a1 a2 true l0_0 l0_1 a0_2 a0_3) else ((spec_l1Sectors.f l0_0 l0_1 a0_2 a0_3).bind fun t644 => (spec_ReadRec.j0 k a1 a2 (decide (a1 ≥ t644)) l0_0 l0_1 a0_2 a0_3))) else (spec_ReadRec.j0 k a1 a2 true l0_0 l0_1 a0_2 a0_3))) else (spec_ReadRec.j0 k a1 a2 true l0_0 l0_1 a0_2 a0_3)) = some (r1, r2, r3) := H
   have A7 := Aside0.mk A70
   clear A70
   by_cases c8 : t642 = true
   · subst c8
     have H1 : ((spec_l2Number.f a2).bind fun t643 => (if t643 = true then (if a1 < 0 then (spec_ReadRec.j0 k a1 a2 true l0_0 l0_1 a0_2 a0_3) else ((spec_l1Sectors.f l0_0 l0_1 a0_2 a0_3).bind fun t644 => (spec_ReadRec.j0 k a1 a2 (decide (a1 ≥ t644)) l0_0 l0_1 a0_2 a0_3))) else (spec_ReadRec.j0 k a1 a2 true l0_0 l0_1 a0_2 a0_3))) = some (r1, r2, r3) := by rw [if_pos rfl] at H; exact H
     clear H
     have H := H1
     clear H1
     replace H := Option.bind_eq_some_iff.mp H
     obtain ⟨t643, A90, H⟩ := H
     replace H : (if t643 = true then (if a1 < 0 then (spec_ReadRec.j0 k a1 a2 true l0_0 l0_1 a0_2 a0_3) else ((spec_l1Sectors.f l0_0 l0_1 a0_2 a0_3).bind fun t644 => (spec_ReadRec.j0 k a1 a2 (decide (a1 ≥ t644)) l0_0 l0_1 a0_2 a0_3))) else (spec_ReadRec.j0 k a1 a2 true l0_0 l0_1 a0_2 a0_3)) = some (r1, r2, r3) := H
     have A9 := Aside0.mk A90
     clear A90
     by_cases c10 : t643 = true
     ·subst c10
      have H1 : (if a1 < 0 then (spec_ReadRec.j0 k a1 a2 true l0_0 l0_1 a0_2 a0_3) else ((spec_l1Sectors.f l0_0 l0_1 a0_2 a0_3).bind fun t644 => (spec_ReadRec.j0 k a1 a2 (decide (a1 ≥ t644)) l0_0 l0_1 a0_2 a0_3))) = some (r1, r2, r3) := by rw [if_pos rfl] at H; exact H
      clear H
      have H := H1
      clear H1
      by_cases c11 : a1 < 0
      ·rw [if_pos c11] at H
       have c11b0 : decide (a1 < 0) = true := decide_eq_true c11
       clear c11
       (first | rw [c11b0] | (simp only [i64_w, i32_w]; rw [c11b0]) | skip)
       have H' := Aside0.mk H
       clear H
       have hnb12 := NB640_641.out
       have hnc12 := NB641_640.out
       have hcz13_0 : w6.cell? ⟨gb640, 0, none⟩ = some (.slice A0_0 l0_0.length c0_0) := (blk_cell BK640.out 0).trans rfl
       have hcz13_1 : w6.cell? ⟨gb640, 1, none⟩ = some (.slice A0_1 l0_1.length c0_1) := (blk_cell BK640.out 1).trans rfl
       have hcz13_2 : w6.cell? ⟨gb640, 2, none⟩ = some (.int .i64 a0_2) := (blk_cell BK640.out 2).trans rfl
       have hcz13_3 : w6.cell? ⟨gb640, 3, none⟩ = some (.bool a0_3) := (blk_cell BK640.out 3).trans rfl
       have hfz13_0 := blk_frozen BK640.out 0
       have hfz13_1 := blk_frozen BK640.out 1
       have hfz13_2 := blk_frozen BK640.out 2
       have hfz13_3 := blk_frozen BK640.out 3
       go_wp2_with (first | ((with_reducible refine gate_callee (f := 11) rfl ?_); refine goesL_ (some 14) rfl rfl Try.func11 (by kernel_rfl) rfl #[.agg #[.slice A0_0 l0_0.length c0_0, .slice A0_1 l0_1.length c0_1, .int .i64 a0_2, .bool a0_3]] rfl (by (try simp only [List.map_toArray, List.map_cons, List.map_nil]); first | done | rfl | (simp only [List.length_drop, List.length_take]; rfl)) ?_; (with_reducible refine (spec_ValidDisk.calls k _ _ l0_0 _ _ l0_1 a0_2 a0_3 true _ ?side1 ?side2 ?side3 ?side4 A7.out).mono ?_); (case side1 => repeat (first | exact (Kd.C_below HR0_0.out HB.out) | (with_reducible refine Kd.C_alloc ?_ _) | (with_reducible refine Kd.C_drewN ?_ _) | (with_reducible refine Kd.C_drew ?_))); (case side2 => exact HC0_0.out); (case side3 => repeat (first | exact (Kd.C_below HR0_1.out HB.out) | (with_reducible refine Kd.C_alloc ?_ _) | (with_reducible refine Kd.C_drewN ?_ _) | (with_reducible refine Kd.C_drew ?_))); (case side4 => exact HC0_1.out); rintro e w14 ⟨rfl, hb⟩; refine ⟨_, rfl, ?_⟩; have n0_ := Aside0.mk (blk_below (g := gb640) (o := .cells #[.slice A0_0 l0_0.length c0_0, .slice A0_1 l0_1.length c0_1, .int .i64 a0_2, .bool a0_3] 25 (0, 0)) (by (with_reducible repeat (first | refine blk_drewN ?_ _ | refine blk_drew ?_ | refine blk_alloc ?_ _)); exact BK640.out) hb); have n1_ := Aside0.mk (blk_below (g := gb641) (o := .cells #[.bool false, .slice none 0 0, .int .i64 0] 49 (0, 0)) (by (with_reducible repeat (first | refine blk_drewN ?_ _ | refine blk_drew ?_ | refine blk_alloc ?_ _)); exact BK641.out) hb); have n2_ := Aside0.mk (below_step (by repeat (first | (with_reducible first | exact HB.out | apply below_alloc | apply pw_below_drewN | apply below_drew1 | refine below_set ?_ GE640.out | refine below_set ?_ GE641.out) | exact HB.out)) hb); clear BK640; clear BK641; clear HB; have BK640 := n0_; have BK641 := n1_; have HB := n2_; clear n0_ n1_ n2_; (try clear hb); (try clear hb2); (try clear hk); (try clear hi)) | (go_at_call 66; (with_reducible refine (spec_l2Number.calls a2 true _ A9.out).mono ?_); rintro e w' ⟨rfl, ⟨nd, rfl⟩⟩))
       go_meet
       case rel => exact ⟨_, (true), (by first | rfl | (simp; done) | (simp [*]; done)), H', ⟨by first | omega | exact Nat.le_refl _⟩, ⟨by (with_reducible repeat (first | refine blk_drewN ?_ _ | refine blk_drew ?_ | refine blk_alloc ?_ _)); exact BK640.out⟩, ⟨by (with_reducible repeat (first | refine blk_drewN ?_ _ | refine blk_drew ?_ | refine blk_alloc ?_ _)); exact BK641.out⟩, ⟨by repeat (first | (with_reducible first | exact HB.out | apply below_alloc | apply pw_below_drewN | apply below_drew1 | refine below_set ?_ GE640.out | refine below_set ?_ GE641.out) | exact HB.out)⟩⟩
      ·rw [if_neg c11] at H
       have c11b0 : decide (a1 < 0) = false := decide_eq_false c11
       clear c11
       (first | rw [c11b0] | (simp only [i64_w, i32_w]; rw [c11b0]) | skip)
       replace H := Option.bind_eq_some_iff.mp H
       obtain ⟨t644, A150, H⟩ := H
       replace H : (spec_ReadRec.j0 k a1 a2 (decide (a1 ≥ t644)) l0_0 l0_1 a0_2 a0_3) = some (r1, r2, r3) := H
       have A15 := Aside0.mk A150
       clear A150
       have H' := Aside0.mk H
       clear H
       have hnb16 := NB640_641.out
       have hnc16 := NB641_640.out
       have hcz17_0 : w6.cell? ⟨gb640, 0, none⟩ = some (.slice A0_0 l0_0.length c0_0) := (blk_cell BK640.out 0).trans rfl
       have hcz17_1 : w6.cell? ⟨gb640, 1, none⟩ = some (.slice A0_1 l0_1.length c0_1) := (blk_cell BK640.out 1).trans rfl
       have hcz17_2 : w6.cell? ⟨gb640, 2, none⟩ = some (.int .i64 a0_2) := (blk_cell BK640.out 2).trans rfl
       have hcz17_3 : w6.cell? ⟨gb640, 3, none⟩ = some (.bool a0_3) := (blk_cell BK640.out 3).trans rfl
       have hfz17_0 := blk_frozen BK640.out 0
       have hfz17_1 := blk_frozen BK640.out 1
       have hfz17_2 := blk_frozen BK640.out 2
       have hfz17_3 := blk_frozen BK640.out 3
       go_wp2_with (first | ((with_reducible refine gate_callee (f := 11) rfl ?_); refine goesL_ (some 14) rfl rfl Try.func11 (by kernel_rfl) rfl #[.agg #[.slice A0_0 l0_0.length c0_0, .slice A0_1 l0_1.length c0_1, .int .i64 a0_2, .bool a0_3]] rfl (by (try simp only [List.map_toArray, List.map_cons, List.map_nil]); first | done | rfl | (simp only [List.length_drop, List.length_take]; rfl)) ?_; (with_reducible refine (spec_ValidDisk.calls k _ _ l0_0 _ _ l0_1 a0_2 a0_3 true _ ?side1 ?side2 ?side3 ?side4 A7.out).mono ?_); (case side1 => repeat (first | exact (Kd.C_below HR0_0.out HB.out) | (with_reducible refine Kd.C_alloc ?_ _) | (with_reducible refine Kd.C_drewN ?_ _) | (with_reducible refine Kd.C_drew ?_))); (case side2 => exact HC0_0.out); (case side3 => repeat (first | exact (Kd.C_below HR0_1.out HB.out) | (with_reducible refine Kd.C_alloc ?_ _) | (with_reducible refine Kd.C_drewN ?_ _) | (with_reducible refine Kd.C_drew ?_))); (case side4 => exact HC0_1.out); rintro e w18 ⟨rfl, hb⟩; refine ⟨_, rfl, ?_⟩; have n0_ := Aside0.mk (blk_below (g := gb640) (o := .cells #[.slice A0_0 l0_0.length c0_0, .slice A0_1 l0_1.length c0_1, .int .i64 a0_2, .bool a0_3] 25 (0, 0)) (by (with_reducible repeat (first | refine blk_drewN ?_ _ | refine blk_drew ?_ | refine blk_alloc ?_ _)); exact BK640.out) hb); have n1_ := Aside0.mk (blk_below (g := gb641) (o := .cells #[.bool false, .slice none 0 0, .int .i64 0] 49 (0, 0)) (by (with_reducible repeat (first | refine blk_drewN ?_ _ | refine blk_drew ?_ | refine blk_alloc ?_ _)); exact BK641.out) hb); have n2_ := Aside0.mk (below_step (by repeat (first | (with_reducible first | exact HB.out | apply below_alloc | apply pw_below_drewN | apply below_drew1 | refine below_set ?_ GE640.out | refine below_set ?_ GE641.out) | exact HB.out)) hb); clear BK640; clear BK641; clear HB; have BK640 := n0_; have BK641 := n1_; have HB := n2_; clear n0_ n1_ n2_; (try clear hb); (try clear hb2); (try clear hk); (try clear hi)) | (go_at_call 66; (with_reducible refine (spec_l2Number.calls a2 true _ A9.out).mono ?_); rintro e w' ⟨rfl, ⟨nd, rfl⟩⟩; have hcz19_0 : w18.cell? ⟨gb640, 0, none⟩ = some (.slice A0_0 l0_0.length c0_0) := (blk_cell BK640.out 0).trans rfl; have hcz19_1 : w18.cell? ⟨gb640, 1, none⟩ = some (.slice A0_1 l0_1.length c0_1) := (blk_cell BK640.out 1).trans rfl; have hcz19_2 : w18.cell? ⟨gb640, 2, none⟩ = some (.int .i64 a0_2) := (blk_cell BK640.out 2).trans rfl; have hcz19_3 : w18.cell? ⟨gb640, 3, none⟩ = some (.bool a0_3) := (blk_cell BK640.out 3).trans rfl; have hfz19_0 := blk_frozen BK640.out 0; have hfz19_1 := blk_frozen BK640.out 1; have hfz19_2 := blk_frozen BK640.out 2; have hfz19_3 := blk_frozen BK640.out 3) | (go_at_call 51; (with_reducible refine (spec_l1Sectors.calls _ _ l0_0 _ _ l0_1 a0_2 a0_3 t644 _ ?side1 ?side2 ?side3 ?side4 A15.out).mono ?_); (case side1 => repeat (first | exact (Kd.C_below HR0_0.out (by repeat (first | (with_reducible first | exact HB.out | apply below_alloc | apply pw_below_drewN | apply below_drew1 | refine below_set ?_ GE640.out | refine below_set ?_ GE641.out) | exact HB.out))) | (with_reducible refine Kd.C_alloc ?_ _) | (with_reducible refine Kd.C_drewN ?_ _) | (with_reducible refine Kd.C_drew ?_))); (case side2 => exact HC0_0.out); (case side3 => repeat (first | exact (Kd.C_below HR0_1.out (by repeat (first | (with_reducible first | exact HB.out | apply below_alloc | apply pw_below_drewN | apply below_drew1 | refine below_set ?_ GE640.out | refine below_set ?_ GE641.out) | exact HB.out))) | (with_reducible refine Kd.C_alloc ?_ _) | (with_reducible refine Kd.C_drewN ?_ _) | (with_reducible refine Kd.C_drew ?_))); (case side4 => exact HC0_1.out); rintro e w20 ⟨rfl, hb⟩; have n0_ := Aside0.mk (blk_below (g := gb640) (o := .cells #[.slice A0_0 l0_0.length c0_0, .slice A0_1 l0_1.length c0_1, .int .i64 a0_2, .bool a0_3] 25 (0, 0)) (by (with_reducible repeat (first | refine blk_drewN ?_ _ | refine blk_drew ?_ | refine blk_alloc ?_ _)); exact BK640.out) hb); have n1_ := Aside0.mk (blk_below (g := gb641) (o := .cells #[.bool false, .slice none 0 0, .int .i64 0] 49 (0, 0)) (by (with_reducible repeat (first | refine blk_drewN ?_ _ | refine blk_drew ?_ | refine blk_alloc ?_ _)); exact BK641.out) hb); have n2_ := Aside0.mk (below_step (by repeat (first | (with_reducible first | exact HB.out | apply below_alloc | apply pw_below_drewN | apply below_drew1 | refine below_set ?_ GE640.out | refine below_set ?_ GE641.out) | exact HB.out)) hb); clear BK640; clear BK641; clear HB; have BK640 := n0_; have BK641 := n1_; have HB := n2_; clear n0_ n1_ n2_; (try clear hb); (try clear hb2); (try clear hk); (try clear hi)))
       go_meet
       case rel => exact ⟨_, (decide (a1 ≥ t644)), (by first | rfl | (simp; done) | (simp [*]; done)), H', ⟨by first | omega | exact Nat.le_refl _⟩, ⟨by (with_reducible repeat (first | refine blk_drewN ?_ _ | refine blk_drew ?_ | refine blk_alloc ?_ _)); exact BK640.out⟩, ⟨by (with_reducible repeat (first | refine blk_drewN ?_ _ | refine blk_drew ?_ | refine blk_alloc ?_ _)); exact BK641.out⟩, ⟨by repeat (first | (with_reducible first | exact HB.out | apply below_alloc | apply pw_below_drewN | apply below_drew1 | refine below_set ?_ GE640.out | refine below_set ?_ GE641.out) | exact HB.out)⟩⟩
     ·replace c10 := Bool.eq_false_iff.mpr c10
      subst c10
      have H1 : (spec_ReadRec.j0 k a1 a2 true l0_0 l0_1 a0_2 a0_3) = some (r1, r2, r3) := by rw [if_neg (show ¬ (false = true) by decide)] at H; exact H
      clear H
      have H := H1
      clear H1
      have H' := Aside0.mk H
      clear H
      have hnb21 := NB640_641.out
      have hnc21 := NB641_640.out
      have hcz22_0 : w6.cell? ⟨gb640, 0, none⟩ = some (.slice A0_0 l0_0.length c0_0) := (blk_cell BK640.out 0).trans rfl
      have hcz22_1 : w6.cell? ⟨gb640, 1, none⟩ = some (.slice A0_1 l0_1.length c0_1) := (blk_cell BK640.out 1).trans rfl
      have hcz22_2 : w6.cell? ⟨gb640, 2, none⟩ = some (.int .i64 a0_2) := (blk_cell BK640.out 2).trans rfl
      have hcz22_3 : w6.cell? ⟨gb640, 3, none⟩ = some (.bool a0_3) := (blk_cell BK640.out 3).trans rfl
      have hfz22_0 := blk_frozen BK640.out 0
      have hfz22_1 := blk_frozen BK640.out 1
      have hfz22_2 := blk_frozen BK640.out 2
      have hfz22_3 := blk_frozen BK640.out 3
      go_wp2_with (first | ((with_reducible refine gate_callee (f := 11) rfl ?_); refine goesL_ (some 14) rfl rfl Try.func11 (by kernel_rfl) rfl #[.agg #[.slice A0_0 l0_0.length c0_0, .slice A0_1 l0_1.length c0_1, .int .i64 a0_2, .bool a0_3]] rfl (by (try simp only [List.map_toArray, List.map_cons, List.map_nil]); first | done | rfl | (simp only [List.length_drop, List.length_take]; rfl)) ?_; (with_reducible refine (spec_ValidDisk.calls k _ _ l0_0 _ _ l0_1 a0_2 a0_3 true _ ?side1 ?side2 ?side3 ?side4 A7.out).mono ?_); (case side1 => repeat (first | exact (Kd.C_below HR0_0.out HB.out) | (with_reducible refine Kd.C_alloc ?_ _) | (with_reducible refine Kd.C_drewN ?_ _) | (with_reducible refine Kd.C_drew ?_))); (case side2 => exact HC0_0.out); (case side3 => repeat (first | exact (Kd.C_below HR0_1.out HB.out) | (with_reducible refine Kd.C_alloc ?_ _) | (with_reducible refine Kd.C_drewN ?_ _) | (with_reducible refine Kd.C_drew ?_))); (case side4 => exact HC0_1.out); rintro e w23 ⟨rfl, hb⟩; refine ⟨_, rfl, ?_⟩; have n0_ := Aside0.mk (blk_below (g := gb640) (o := .cells #[.slice A0_0 l0_0.length c0_0, .slice A0_1 l0_1.length c0_1, .int .i64 a0_2, .bool a0_3] 25 (0, 0)) (by (with_reducible repeat (first | refine blk_drewN ?_ _ | refine blk_drew ?_ | refine blk_alloc ?_ _)); exact BK640.out) hb); have n1_ := Aside0.mk (blk_below (g := gb641) (o := .cells #[.bool false, .slice none 0 0, .int .i64 0] 49 (0, 0)) (by (with_reducible repeat (first | refine blk_drewN ?_ _ | refine blk_drew ?_ | refine blk_alloc ?_ _)); exact BK641.out) hb); have n2_ := Aside0.mk (below_step (by repeat (first | (with_reducible first | exact HB.out | apply below_alloc | apply pw_below_drewN | apply below_drew1 | refine below_set ?_ GE640.out | refine below_set ?_ GE641.out) | exact HB.out)) hb); clear BK640; clear BK641; clear HB; have BK640 := n0_; have BK641 := n1_; have HB := n2_; clear n0_ n1_ n2_; (try clear hb); (try clear hb2); (try clear hk); (try clear hi)) | (go_at_call 66; (with_reducible refine (spec_l2Number.calls a2 false _ A9.out).mono ?_); rintro e w' ⟨rfl, ⟨nd, rfl⟩⟩))
      go_meet
      case rel => exact ⟨_, (true), (by first | rfl | (simp; done) | (simp [*]; done)), H', ⟨by first | omega | exact Nat.le_refl _⟩, ⟨by (with_reducible repeat (first | refine blk_drewN ?_ _ | refine blk_drew ?_ | refine blk_alloc ?_ _)); exact BK640.out⟩, ⟨by (with_reducible repeat (first | refine blk_drewN ?_ _ | refine blk_drew ?_ | refine blk_alloc ?_ _)); exact BK641.out⟩, ⟨by repeat (first | (with_reducible first | exact HB.out | apply below_alloc | apply pw_below_drewN | apply below_drew1 | refine below_set ?_ GE640.out | refine below_set ?_ GE641.out) | exact HB.out)⟩⟩
   · replace c8 := Bool.eq_false_iff.mpr c8
     subst c8
     have H1 : (spec_ReadRec.j0 k a1 a2 true l0_0 l0_1 a0_2 a0_3) = some (r1, r2, r3) := by rw [if_neg (show ¬ (false = true) by decide)] at H; exact H
     clear H
     have H := H1
     clear H1
     have H' := Aside0.mk H
     clear H
     have hnb24 := NB640_641.out
     have hnc24 := NB641_640.out
     have hcz25_0 : w6.cell? ⟨gb640, 0, none⟩ = some (.slice A0_0 l0_0.length c0_0) := (blk_cell BK640.out 0).trans rfl
     have hcz25_1 : w6.cell? ⟨gb640, 1, none⟩ = some (.slice A0_1 l0_1.length c0_1) := (blk_cell BK640.out 1).trans rfl
     have hcz25_2 : w6.cell? ⟨gb640, 2, none⟩ = some (.int .i64 a0_2) := (blk_cell BK640.out 2).trans rfl
     have hcz25_3 : w6.cell? ⟨gb640, 3, none⟩ = some (.bool a0_3) := (blk_cell BK640.out 3).trans rfl
     have hfz25_0 := blk_frozen BK640.out 0
     have hfz25_1 := blk_frozen BK640.out 1
     have hfz25_2 := blk_frozen BK640.out 2
     have hfz25_3 := blk_frozen BK640.out 3
     go_wp2_with (first | ((with_reducible refine gate_callee (f := 11) rfl ?_); refine goesL_ (some 14) rfl rfl Try.func11 (by kernel_rfl) rfl #[.agg #[.slice A0_0 l0_0.length c0_0, .slice A0_1 l0_1.length c0_1, .int .i64 a0_2, .bool a0_3]] rfl (by (try simp only [List.map_toArray, List.map_cons, List.map_nil]); first | done | rfl | (simp only [List.length_drop, List.length_take]; rfl)) ?_; (with_reducible refine (spec_ValidDisk.calls k _ _ l0_0 _ _ l0_1 a0_2 a0_3 false _ ?side1 ?side2 ?side3 ?side4 A7.out).mono ?_); (case side1 => repeat (first | exact (Kd.C_below HR0_0.out HB.out) | (with_reducible refine Kd.C_alloc ?_ _) | (with_reducible refine Kd.C_drewN ?_ _) | (with_reducible refine Kd.C_drew ?_))); (case side2 => exact HC0_0.out); (case side3 => repeat (first | exact (Kd.C_below HR0_1.out HB.out) | (with_reducible refine Kd.C_alloc ?_ _) | (with_reducible refine Kd.C_drewN ?_ _) | (with_reducible refine Kd.C_drew ?_))); (case side4 => exact HC0_1.out); rintro e w26 ⟨rfl, hb⟩; refine ⟨_, rfl, ?_⟩; have n0_ := Aside0.mk (blk_below (g := gb640) (o := .cells #[.slice A0_0 l0_0.length c0_0, .slice A0_1 l0_1.length c0_1, .int .i64 a0_2, .bool a0_3] 25 (0, 0)) (by (with_reducible repeat (first | refine blk_drewN ?_ _ | refine blk_drew ?_ | refine blk_alloc ?_ _)); exact BK640.out) hb); have n1_ := Aside0.mk (blk_below (g := gb641) (o := .cells #[.bool false, .slice none 0 0, .int .i64 0] 49 (0, 0)) (by (with_reducible repeat (first | refine blk_drewN ?_ _ | refine blk_drew ?_ | refine blk_alloc ?_ _)); exact BK641.out) hb); have n2_ := Aside0.mk (below_step (by repeat (first | (with_reducible first | exact HB.out | apply below_alloc | apply pw_below_drewN | apply below_drew1 | refine below_set ?_ GE640.out | refine below_set ?_ GE641.out) | exact HB.out)) hb); clear BK640; clear BK641; clear HB; have BK640 := n0_; have BK641 := n1_; have HB := n2_; clear n0_ n1_ n2_; (try clear hb); (try clear hb2); (try clear hk); (try clear hi)))
     go_meet
     case rel => exact ⟨_, (true), (by first | rfl | (simp; done) | (simp [*]; done)), H', ⟨by first | omega | exact Nat.le_refl _⟩, ⟨by (with_reducible repeat (first | refine blk_drewN ?_ _ | refine blk_drew ?_ | refine blk_alloc ?_ _)); exact BK640.out⟩, ⟨by (with_reducible repeat (first | refine blk_drewN ?_ _ | refine blk_drew ?_ | refine blk_alloc ?_ _)); exact BK641.out⟩, ⟨by repeat (first | (with_reducible first | exact HB.out | apply below_alloc | apply pw_below_drewN | apply below_drew1 | refine below_set ?_ GE640.out | refine below_set ?_ GE641.out) | exact HB.out)⟩⟩
 case rest =>
   clear HC4
   try clear c1
   try clear c2
   try clear p2
   try clear c8
   try clear c10
   try clear c11
   try clear c11b0
   try clear c12
   try clear c16
   try clear c21
   try clear c24
   try clear c25
   try clear hcz13_0
   try clear hcz13_1
   try clear hcz13_2
   try clear hcz13_3
   try clear hcz17_0
   try clear hcz17_1
   try clear hcz17_2
   try clear hcz17_3
   try clear hcz19_0
   try clear hcz19_1
   try clear hcz19_2
   try clear hcz19_3
   try clear hcz22_0
   try clear hcz22_1
   try clear hcz22_2
   try clear hcz22_3
   try clear hcz25_0
   try clear hcz25_1
   try clear hcz25_2
   try clear hcz25_3
   try clear hfz13_0
   try clear hfz13_1
   try clear hfz13_2
   try clear hfz13_3
   try clear hfz17_0
   try clear hfz17_1
   try clear hfz17_2
   try clear hfz17_3
   try clear hfz19_0
   try clear hfz19_1
   try clear hfz19_2
   try clear hfz19_3
   try clear hfz22_0
   try clear hfz22_1
   try clear hfz22_2
   try clear hfz22_3
   try clear hfz25_0
   try clear hfz25_1
   try clear hfz25_2
   try clear hfz25_3
   obtain ⟨kq, x30_3, rfl, HA, HJ3, BK640, BK641, HB⟩ := hcut
   cases kq with
   | zero => exact absurd HA.out (by simp [spec_ReadRec.j0])
   | succ kj3 =>
     have H := HA.out
     clear HA
     simp only [spec_ReadRec.j0] at H
     by_cases c27 : x30_3 = true
     ·subst c27
      have H1 : (some (false, ([] : List Int), 0)) = some (r1, r2, r3) := by rw [if_pos rfl] at H; exact H
      clear H
      have H := H1
      clear H1
      simp only [Option.some.injEq, Prod.mk.injEq] at H
      obtain ⟨rfl, rfl, rfl⟩ := H
      have hnb28 := NB641_640.out
      have hnc28 := NB640_641.out
      have hcz29_0 : wc.cell? ⟨gb641, 0, none⟩ = some (.bool false) := (blk_cell BK641.out 0).trans rfl
      have hcz29_1 : wc.cell? ⟨gb641, 1, none⟩ = some (.slice none 0 0) := (blk_cell BK641.out 1).trans rfl
      have hcz29_2 : wc.cell? ⟨gb641, 2, none⟩ = some (.int .i64 0) := (blk_cell BK641.out 2).trans rfl
      have hfz29_0 := blk_frozen BK641.out 0
      have hfz29_1 := blk_frozen BK641.out 1
      have hfz29_2 := blk_frozen BK641.out 2
      go_wp2
      refine bodyPost_ret (results_cell_row rfl _ _ gb641 49 #[.bool false, .slice none 0 0, .int .i64 0] (0, 0) _ rfl (by (with_reducible repeat (first | refine blk_drewN ?_ _ | refine blk_drew ?_ | refine blk_alloc ?_ _)); refine blk_put (cs := #[.bool false, .slice none 0 0, .int .i64 0]) ?_ 2 _ rfl; (with_reducible repeat (first | refine blk_drewN ?_ _ | refine blk_drew ?_ | refine blk_alloc ?_ _)); refine blk_put (cs := #[.bool false, .slice none 0 0, .int .i64 0]) ?_ 1 _ rfl; (with_reducible repeat (first | refine blk_drewN ?_ _ | refine blk_drew ?_ | refine blk_alloc ?_ _)); refine blk_put (cs := #[.bool false, .slice none 0 0, .int .i64 0]) ?_ 0 _ rfl; (with_reducible repeat (first | refine blk_drewN ?_ _ | refine blk_drew ?_ | refine blk_alloc ?_ _)); exact BK641.out) Try.underlying49 rfl (by kernel_rfl)) rfl ?_
      exact ⟨_, by first | rfl | (simp [errW_none, errW_some] <;> rfl) | (simp [*, errW_none, errW_some] <;> rfl), by first | exact Kd.R_nil _ _ _ _ _ | exact Kd.N_nil _ _ _ _ _ | exact Kd.V_nil _ _ _ _ _ | exact Kd.Q_nil _ _ _ _ _ | exact Kd.S_nil _ _ _ _ _, by repeat (first | (with_reducible first | exact HB.out | apply below_alloc | apply pw_below_drewN | apply below_drew1 | refine below_set ?_ GE640.out | refine below_set ?_ GE641.out) | exact HB.out)⟩
     ·replace c27 := Bool.eq_false_iff.mpr c27
      subst c27
      have H1 : ((spec_DiskRead.f kj3 l0_0 l0_1 a0_2 a0_3 a1).bind fun t645 => (if 6 ≤ 8 then (if 8 ≤ (t645.length : Int) then ((spec_l2Get.f kj3 ((t645.take 8).drop 6)).bind fun t653 => (if t653 < 1 then (spec_ReadRec.j1 kj3 a1 a2 t653 true l0_0 l0_1 a0_2 a0_3) else ((spec_l1Sectors.f l0_0 l0_1 a0_2 a0_3).bind fun t654 => (spec_ReadRec.j1 kj3 a1 a2 t653 (decide ((wrap64 (a1 + t653)) > t654)) l0_0 l0_1 a0_2 a0_3)))) else (none)) else (none))) = some (r1, r2, r3) := by rw [if_neg (show ¬ (false = true) by decide)] at H; exact H
      clear H
      have H := H1
      clear H1
      replace H := Option.bind_eq_some_iff.mp H
      obtain ⟨t645, A300, H⟩ := H
      replace H : (if 6 ≤ 8 then (if 8 ≤ (t645.length : Int) then ((spec_l2Get.f kj3 ((t645.take 8).drop 6)).bind fun t653 => (if t653 < 1 then (spec_ReadRec.j1 kj3 a1 a2 t653 true l0_0 l0_1 a0_2 a0_3) else ((spec_l1Sectors.f l0_0 l0_1 a0_2 a0_3).bind fun t654 => (spec_ReadRec.j1 kj3 a1 a2 t653 (decide ((wrap64 (a1 + t653)) > t654)) l0_0 l0_1 a0_2 a0_3)))) else (none)) else (none)) = some (r1, r2, r3) := H
      have A30 := Aside0.mk A300
      clear A300
      by_cases c31 : 6 ≤ 8
      ·rw [if_pos c31] at H
       have c31b0 := eq_true c31
       have c31b1 : decide (6 ≤ 8) = true := decide_eq_true c31
       clear c31
       by_cases c32 : 8 ≤ (t645.length : Int)
       · rw [if_pos c32] at H
         have c32b0 := eq_true c32
         have c32b1 : decide (8 ≤ (t645.length : Int)) = true := decide_eq_true c32
         clear c32
         obtain ⟨y648, hy648⟩ : ∃ y_ : List Int, y_ = ((t645.take 8).drop 6) := ⟨_, rfl⟩
         replace H : ((spec_l2Get.f kj3 y648).bind fun t653 => (if t653 < 1 then (spec_ReadRec.j1 kj3 a1 a2 t653 true l0_0 l0_1 a0_2 a0_3) else ((spec_l1Sectors.f l0_0 l0_1 a0_2 a0_3).bind fun t654 => (spec_ReadRec.j1 kj3 a1 a2 t653 (decide ((wrap64 (a1 + t653)) > t654)) l0_0 l0_1 a0_2 a0_3)))) = some (r1, r2, r3) := by first | (rw [hy648]; with_reducible exact H) | (have H2_ := (Option.bind_some _ _).symm.trans H; rw [hy648]; with_reducible exact H2_) | (have H2_ := (Option.bind_some _ _).symm.trans H; with_reducible exact H2_) | with_reducible exact H | (rw [hy648]; exact H) | exact H
         have Ny648 := Aside0.mk hy648
         clear hy648
         replace H := Option.bind_eq_some_iff.mp H
         obtain ⟨t653, A330, H⟩ := H
         replace H : (if t653 < 1 then (spec_ReadRec.j1 kj3 a1 a2 t653 true l0_0 l0_1 a0_2 a0_3) else ((spec_l1Sectors.f l0_0 l0_1 a0_2 a0_3).bind fun t654 => (spec_ReadRec.j1 kj3 a1 a2 t653 (decide ((wrap64 (a1 + t653)) > t654)) l0_0 l0_1 a0_2 a0_3))) = some (r1, r2, r3) := H
         have A33 := Aside0.mk A330
         clear A330
         have HC34 := Aside0.mk H
         clear H
         have hnb35 := NB640_641.out
         have hnc35 := NB641_640.out
         have hcz36_0 : wc.cell? ⟨gb640, 0, none⟩ = some (.slice A0_0 l0_0.length c0_0) := (blk_cell BK640.out 0).trans rfl
         have hcz36_1 : wc.cell? ⟨gb640, 1, none⟩ = some (.slice A0_1 l0_1.length c0_1) := (blk_cell BK640.out 1).trans rfl
         have hcz36_2 : wc.cell? ⟨gb640, 2, none⟩ = some (.int .i64 a0_2) := (blk_cell BK640.out 2).trans rfl
         have hcz36_3 : wc.cell? ⟨gb640, 3, none⟩ = some (.bool a0_3) := (blk_cell BK640.out 3).trans rfl
         have hfz36_0 := blk_frozen BK640.out 0
         have hfz36_1 := blk_frozen BK640.out 1
         have hfz36_2 := blk_frozen BK640.out 2
         have hfz36_3 := blk_frozen BK640.out 3
         go_upto_region 4 with (first | ((with_reducible refine gate_callee (f := 17) rfl ?_); refine goesL_ (some 34) rfl rfl Try.func17 (by kernel_rfl) rfl #[.agg #[.slice A0_0 l0_0.length c0_0, .slice A0_1 l0_1.length c0_1, .int .i64 a0_2, .bool a0_3], .int .i64 a1] rfl (by (try simp only [List.map_toArray, List.map_cons, List.map_nil]); first | done | rfl | (simp only [List.length_drop, List.length_take]; rfl)) ?_; (with_reducible refine (spec_DiskRead.calls kj3 _ _ l0_0 _ _ l0_1 a0_2 a0_3 a1 t645 _ ?side1 ?side2 ?side3 ?side4 A30.out).mono ?_); (case side1 => repeat (first | exact (Kd.C_below HR0_0.out HB.out) | (with_reducible refine Kd.C_alloc ?_ _) | (with_reducible refine Kd.C_drewN ?_ _) | (with_reducible refine Kd.C_drew ?_))); (case side2 => exact HC0_0.out); (case side3 => repeat (first | exact (Kd.C_below HR0_1.out HB.out) | (with_reducible refine Kd.C_alloc ?_ _) | (with_reducible refine Kd.C_drewN ?_ _) | (with_reducible refine Kd.C_drew ?_))); (case side4 => exact HC0_1.out); rintro e w37 ⟨v646, rfl, ho0, hb⟩; refine ⟨_, rfl, ?_⟩; have n0_ := Aside0.mk (Kd.R_lower ho0 (below_size (by repeat (first | (with_reducible first | exact HB.out | apply below_alloc | apply pw_below_drewN | apply below_drew1 | refine below_set ?_ GE640.out | refine below_set ?_ GE641.out) | exact HB.out)))); have n1_ := Aside0.mk (blk_below (g := gb640) (o := .cells #[.slice A0_0 l0_0.length c0_0, .slice A0_1 l0_1.length c0_1, .int .i64 a0_2, .bool a0_3] 25 (0, 0)) (by (with_reducible repeat (first | refine blk_drewN ?_ _ | refine blk_drew ?_ | refine blk_alloc ?_ _)); exact BK640.out) hb); have n2_ := Aside0.mk (blk_below (g := gb641) (o := .cells #[.bool false, .slice none 0 0, .int .i64 0] 49 (0, 0)) (by (with_reducible repeat (first | refine blk_drewN ?_ _ | refine blk_drew ?_ | refine blk_alloc ?_ _)); exact BK641.out) hb); have n3_ := Aside0.mk (below_step (by repeat (first | (with_reducible first | exact HB.out | apply below_alloc | apply pw_below_drewN | apply below_drew1 | refine below_set ?_ GE640.out | refine below_set ?_ GE641.out) | exact HB.out)) hb); clear BK640; clear BK641; clear HB; have HO647 := n0_; have BK640 := n1_; have BK641 := n2_; have HB := n3_; clear n0_ n1_ n2_ n3_; (try clear hb); (try clear hb2); (try clear hk); (try clear hi); (try clear ho0); obtain ⟨Ao39, co39, eo39⟩ := Kd.R_slice HO647.out; subst eo39; have q38 : (8 : Int) ≤ ((t645.length : Int) : Int) := of_decide_eq_true (by first | (with_reducible assumption) | assumption); obtain ⟨i038, hi038, _, hsz38, _⟩ := info_parts info5; have hroom38 : t645.length ≤ co39 := (Kd.R_reads' HO647.out).2.1; have hC38 : Kd.F (Kd.int .u8) _ _ Ao39 t645.length t645 := (Kd.V_at (base := w.heap.size) (Kd.R_V (Kd.R_types (Kd.R_types (HO647.out) BK640.out (by decide)) BK641.out (by decide)))).2.2; have ql38 : (6 : Int) ≤ (8 : Int) := (by omega); have hcut38 := cut_mid (P := Try.prog) 22 5 .i64 .i64 Try.underlying22 hi038 1 hsz38 Ao39 t645.length co39 6 8 (by omega) ql38 q38 hroom38; have hr38 := Kd.F_mid (lo := (6 : Int).toNat) (hi := (8 : Int).toNat) (c := co39) hC38 (by omega) (by omega) hroom38; obtain ⟨A38, hA38⟩ : ∃ A1, A1 = (if co39 = (6 : Int).toNat then Ao39 else (Ao39 : Option Addr).map (·.add ((6 : Int).toNat * 1))) := ⟨_, rfl⟩; obtain ⟨c38, hc38⟩ : ∃ c1, c1 = co39 - (6 : Int).toNat := ⟨_, rfl⟩; have hy38 : y648.length = (8 : Int).toNat - (6 : Int).toNat := (by rw [Ny648.out, List.length_drop, List.length_take] <;> omega); rw [show ((t645).take (8 : Int).toNat).drop (6 : Int).toNat = y648 from Ny648.out.symm] at hr38; replace hr38 : Kd.F (Kd.int .u8) _ _ A38 y648.length y648 := (by rw [hA38]; exact hr38); rw [← hy38, ← hA38, ← hc38] at hcut38; have HO652 := Aside0.mk (show Kd.V (Kd.int .u8) 5 _ w.heap.size _ (.slice A38 y648.length c38) y648 from Kd.V_mk (by rw [hy38, hc38]; exact Nat.sub_le_sub_right (Nat.le_trans (by omega) hroom38) _) hr38); have HC652 := Aside0.mk (show y648.length ≤ c38 from by rw [hy38, hc38]; exact Nat.sub_le_sub_right (Nat.le_trans (by omega) hroom38) _); clear hr38 hC38 hroom38 hi038 hsz38 hc38; have KY38 := Aside0.mk hy38; have KA38 := Aside0.mk hA38; clear hy38 hA38; replace q38 := eq_true q38) | ((with_reducible refine gate_callee (f := 67) rfl ?_); refine goesL_ (some 36) rfl rfl Try.func67 (by kernel_rfl) rfl #[.slice A38 y648.length c38] rfl (by (try simp only [List.map_toArray, List.map_cons, List.map_nil]); first | done | rfl | (simp only [List.length_drop, List.length_take]; rfl)) ?_; (with_reducible refine (spec_l2Get.calls kj3 _ _ y648 t653 _ ?side1 ?side2 A33.out).mono ?_); (case side1 => repeat (first | exact (Kd.V_reads' HO652.out).2.2 | (with_reducible refine Kd.C_alloc ?_ _) | (with_reducible refine Kd.C_drewN ?_ _) | (with_reducible refine Kd.C_drew ?_))); (case side2 => exact (Kd.V_reads' HO652.out).2.1); rintro e w' ⟨rfl, ⟨nd, rfl⟩⟩; refine ⟨_, rfl, ?_⟩))
         (try simp only [Act.put, List.setIfInBounds_toArray, List.set_cons_zero, List.set_cons_succ])
         go_cut [46] (fun v46 wc => ∃ (kq : Nat) (x46_33 : Bool), v46 = .bool x46_33 ∧ Aside0 (spec_ReadRec.j1 kq a1 a2 t653 x46_33 l0_0 l0_1 a0_2 a0_3 = some (r1, r2, r3)) ∧ Aside0 (kq ≤ kj3) ∧ Aside0 (wc.heap[gb640]? = some (.cells #[(.slice A0_0 l0_0.length c0_0), (.slice A0_1 l0_1.length c0_1), .int .i64 a0_2, .bool a0_3] 25 (0, 0))) ∧ Aside0 (wc.heap[gb641]? = some (.cells #[.bool false, (.slice none 0 0), .int .i64 0] 49 (0, 0))) ∧ Aside0 (Below w.heap.size w wc))
         case first =>
           have H := HC34.out
           clear HC34
           by_cases c40 : t653 < 1
           · rw [if_pos c40] at H
             have c40b0 : decide (t653 < 1) = true := decide_eq_true c40
             clear c40
             (first | rw [c40b0] | (simp only [i64_w, i32_w]; rw [c40b0]) | skip)
             have H' := Aside0.mk H
             clear H
             go_wp2
             go_meet
             case rel => exact ⟨_, (true), (by first | rfl | (simp; done) | (simp [*]; done)), H', ⟨by have := HJ3.out; first | omega | exact Nat.le_refl _⟩, ⟨by (with_reducible repeat (first | refine blk_drewN ?_ _ | refine blk_drew ?_ | refine blk_alloc ?_ _)); exact BK640.out⟩, ⟨by (with_reducible repeat (first | refine blk_drewN ?_ _ | refine blk_drew ?_ | refine blk_alloc ?_ _)); exact BK641.out⟩, ⟨by repeat (first | (with_reducible first | exact HB.out | apply below_alloc | apply pw_below_drewN | apply below_drew1 | refine below_set ?_ GE640.out | refine below_set ?_ GE641.out) | exact HB.out)⟩⟩
           · rw [if_neg c40] at H
             have c40b0 : decide (t653 < 1) = false := decide_eq_false c40
             clear c40
             (first | rw [c40b0] | (simp only [i64_w, i32_w]; rw [c40b0]) | skip)
             replace H := Option.bind_eq_some_iff.mp H
             obtain ⟨t654, A410, H⟩ := H
             replace H : (spec_ReadRec.j1 kj3 a1 a2 t653 (decide ((wrap64 (a1 + t653)) > t654)) l0_0 l0_1 a0_2 a0_3) = some (r1, r2, r3) := H
             have A41 := Aside0.mk A410
             clear A410
             have H' := Aside0.mk H
             clear H
             have hnb42 := NB640_641.out
             have hnc42 := NB641_640.out
             have hcz43_0 : w37.cell? ⟨gb640, 0, none⟩ = some (.slice A0_0 l0_0.length c0_0) := (blk_cell BK640.out 0).trans rfl
             have hcz43_1 : w37.cell? ⟨gb640, 1, none⟩ = some (.slice A0_1 l0_1.length c0_1) := (blk_cell BK640.out 1).trans rfl
             have hcz43_2 : w37.cell? ⟨gb640, 2, none⟩ = some (.int .i64 a0_2) := (blk_cell BK640.out 2).trans rfl
             have hcz43_3 : w37.cell? ⟨gb640, 3, none⟩ = some (.bool a0_3) := (blk_cell BK640.out 3).trans rfl
             have hfz43_0 := blk_frozen BK640.out 0
             have hfz43_1 := blk_frozen BK640.out 1
             have hfz43_2 := blk_frozen BK640.out 2
             have hfz43_3 := blk_frozen BK640.out 3
             go_wp2_with (first | (go_at_call 51; (with_reducible refine (spec_l1Sectors.calls _ _ l0_0 _ _ l0_1 a0_2 a0_3 t654 _ ?side1 ?side2 ?side3 ?side4 A41.out).mono ?_); (case side1 => repeat (first | exact (Kd.C_below HR0_0.out HB.out) | (with_reducible refine Kd.C_alloc ?_ _) | (with_reducible refine Kd.C_drewN ?_ _) | (with_reducible refine Kd.C_drew ?_))); (case side2 => exact HC0_0.out); (case side3 => repeat (first | exact (Kd.C_below HR0_1.out HB.out) | (with_reducible refine Kd.C_alloc ?_ _) | (with_reducible refine Kd.C_drewN ?_ _) | (with_reducible refine Kd.C_drew ?_))); (case side4 => exact HC0_1.out); rintro e w44 ⟨rfl, hb⟩; have n0_ := Aside0.mk (Kd.R_below (by (with_reducible repeat (first | apply Kd.R_alloc | apply Kd.R_drewN | apply Kd.R_drew)); exact HO647.out) hb); have n1_ := Aside0.mk (Kd.V_below (by (with_reducible repeat (first | apply Kd.V_alloc | apply Kd.V_drewN | apply Kd.V_drew)); exact HO652.out) hb); have n2_ := Aside0.mk (blk_below (g := gb640) (o := .cells #[.slice A0_0 l0_0.length c0_0, .slice A0_1 l0_1.length c0_1, .int .i64 a0_2, .bool a0_3] 25 (0, 0)) (by (with_reducible repeat (first | refine blk_drewN ?_ _ | refine blk_drew ?_ | refine blk_alloc ?_ _)); exact BK640.out) hb); have n3_ := Aside0.mk (blk_below (g := gb641) (o := .cells #[.bool false, .slice none 0 0, .int .i64 0] 49 (0, 0)) (by (with_reducible repeat (first | refine blk_drewN ?_ _ | refine blk_drew ?_ | refine blk_alloc ?_ _)); exact BK641.out) hb); have n4_ := Aside0.mk (below_step (by repeat (first | (with_reducible first | exact HB.out | apply below_alloc | apply pw_below_drewN | apply below_drew1 | refine below_set ?_ GE640.out | refine below_set ?_ GE641.out) | exact HB.out)) hb); clear HO647; clear HO652; clear BK640; clear BK641; clear HB; have HO647 := n0_; have HO652 := n1_; have BK640 := n2_; have BK641 := n3_; have HB := n4_; clear n0_ n1_ n2_ n3_ n4_; (try clear hb); (try clear hb2); (try clear hk); (try clear hi)))
             go_meet
             case rel => exact ⟨_, (decide ((wrap64 (a1 + t653)) > t654)), (by first | rfl | (simp; done) | (simp [*]; done)), H', ⟨by have := HJ3.out; first | omega | exact Nat.le_refl _⟩, ⟨by (with_reducible repeat (first | refine blk_drewN ?_ _ | refine blk_drew ?_ | refine blk_alloc ?_ _)); exact BK640.out⟩, ⟨by (with_reducible repeat (first | refine blk_drewN ?_ _ | refine blk_drew ?_ | refine blk_alloc ?_ _)); exact BK641.out⟩, ⟨by repeat (first | (with_reducible first | exact HB.out | apply below_alloc | apply pw_below_drewN | apply below_drew1 | refine below_set ?_ GE640.out | refine below_set ?_ GE641.out) | exact HB.out)⟩⟩
         case rest =>
           clear HC34
           try clear c1
           try clear c2
           try clear p2
           try clear c3
           try clear q3
           try clear c4
           try clear c6
           try clear p6
           try clear c8
           try clear c10
           try clear c11
           try clear c11b0
           try clear c12
           try clear c16
           try clear c17
           try clear c21
           try clear c24
           try clear c25
           try clear c27
           try clear c28
           try clear c31
           try clear c31b0
           try clear c31b1
           try clear c32
           try clear c32b0
           try clear c32b1
           try clear c35
           try clear c38
           try clear q38
           try clear c40
           try clear c40b0
           try clear c42
           try clear hcz13_0
           try clear hcz13_1
           try clear hcz13_2
           try clear hcz13_3
           try clear hcz17_0
           try clear hcz17_1
           try clear hcz17_2
           try clear hcz17_3
           try clear hcz19_0
           try clear hcz19_1
           try clear hcz19_2
           try clear hcz19_3
           try clear hcz22_0
           try clear hcz22_1
           try clear hcz22_2
           try clear hcz22_3
           try clear hcz25_0
           try clear hcz25_1
           try clear hcz25_2
           try clear hcz25_3
           try clear hcz29_0
           try clear hcz29_1
           try clear hcz29_2
           try clear hcz36_0
           try clear hcz36_1
           try clear hcz36_2
           try clear hcz36_3
           try clear hcz43_0
           try clear hcz43_1
           try clear hcz43_2
           try clear hcz43_3
           try clear hfz13_0
           try clear hfz13_1
           try clear hfz13_2
           try clear hfz13_3
           try clear hfz17_0
           try clear hfz17_1
           try clear hfz17_2
           try clear hfz17_3
           try clear hfz19_0
           try clear hfz19_1
           try clear hfz19_2
           try clear hfz19_3
           try clear hfz22_0
           try clear hfz22_1
           try clear hfz22_2
           try clear hfz22_3
           try clear hfz25_0
           try clear hfz25_1
           try clear hfz25_2
           try clear hfz25_3
           try clear hfz29_0
           try clear hfz29_1
           try clear hfz29_2
           try clear hfz36_0
           try clear hfz36_1
           try clear hfz36_2
           try clear hfz36_3
           try clear hfz43_0
           try clear hfz43_1
           try clear hfz43_2
           try clear hfz43_3
           try clear p2
           try clear q38
           obtain ⟨kq, x46_33, rfl, HA, HJ33, BK640, BK641, HB⟩ := hcut
           cases kq with
           | zero => exact absurd HA.out (by simp [spec_ReadRec.j1])
           | succ kj33 =>
             have H := HA.out
             clear HA
             simp only [spec_ReadRec.j1] at H
             by_cases c45 : x46_33 = true
             · subst c45
               have H1 : (some (false, ([] : List Int), 0)) = some (r1, r2, r3) := by rw [if_pos rfl] at H; exact H
               clear H
               have H := H1
               clear H1
               simp only [Option.some.injEq, Prod.mk.injEq] at H
               obtain ⟨rfl, rfl, rfl⟩ := H
               have hnb46 := NB641_640.out
               have hnc46 := NB640_641.out
               have hcz47_0 : wc.cell? ⟨gb641, 0, none⟩ = some (.bool false) := (blk_cell BK641.out 0).trans rfl
               have hcz47_1 : wc.cell? ⟨gb641, 1, none⟩ = some (.slice none 0 0) := (blk_cell BK641.out 1).trans rfl
               have hcz47_2 : wc.cell? ⟨gb641, 2, none⟩ = some (.int .i64 0) := (blk_cell BK641.out 2).trans rfl
               have hfz47_0 := blk_frozen BK641.out 0
               have hfz47_1 := blk_frozen BK641.out 1
               have hfz47_2 := blk_frozen BK641.out 2
               go_wp2
               refine bodyPost_ret (results_cell_row rfl _ _ gb641 49 #[.bool false, .slice none 0 0, .int .i64 0] (0, 0) _ rfl (by (with_reducible repeat (first | refine blk_drewN ?_ _ | refine blk_drew ?_ | refine blk_alloc ?_ _)); refine blk_put (cs := #[.bool false, .slice none 0 0, .int .i64 0]) ?_ 2 _ rfl; (with_reducible repeat (first | refine blk_drewN ?_ _ | refine blk_drew ?_ | refine blk_alloc ?_ _)); refine blk_put (cs := #[.bool false, .slice none 0 0, .int .i64 0]) ?_ 1 _ rfl; (with_reducible repeat (first | refine blk_drewN ?_ _ | refine blk_drew ?_ | refine blk_alloc ?_ _)); refine blk_put (cs := #[.bool false, .slice none 0 0, .int .i64 0]) ?_ 0 _ rfl; (with_reducible repeat (first | refine blk_drewN ?_ _ | refine blk_drew ?_ | refine blk_alloc ?_ _)); exact BK641.out) Try.underlying49 rfl (by kernel_rfl)) rfl ?_
               exact ⟨_, by first | rfl | (simp [errW_none, errW_some] <;> rfl) | (simp [*, errW_none, errW_some] <;> rfl), by first | exact Kd.R_nil _ _ _ _ _ | exact Kd.N_nil _ _ _ _ _ | exact Kd.V_nil _ _ _ _ _ | exact Kd.Q_nil _ _ _ _ _ | exact Kd.S_nil _ _ _ _ _, by repeat (first | (with_reducible first | exact HB.out | apply below_alloc | apply pw_below_drewN | apply below_drew1 | refine below_set ?_ GE640.out | refine below_set ?_ GE641.out) | exact HB.out)⟩
             · replace c45 := Bool.eq_false_iff.mpr c45
               subst c45
               have H1 : (spec_ReadRec.l0 kj33 a1 a2 t653 (([] : List Int)) (([] : List Int)) 0 l0_0 l0_1 a0_2 a0_3) = some (r1, r2, r3) := by rw [if_neg (show ¬ (false = true) by decide)] at H; exact H
               clear H
               have H := H1
               clear H1
               obtain ⟨y655, hy655⟩ : ∃ y_ : List Int, y_ = (([] : List Int)) := ⟨_, rfl⟩
               replace H : (spec_ReadRec.l0 kj33 a1 a2 t653 y655 (([] : List Int)) 0 l0_0 l0_1 a0_2 a0_3) = some (r1, r2, r3) := by first | (rw [hy655]; with_reducible exact H) | (have H2_ := (Option.bind_some _ _).symm.trans H; rw [hy655]; with_reducible exact H2_) | (have H2_ := (Option.bind_some _ _).symm.trans H; with_reducible exact H2_) | with_reducible exact H | (rw [hy655]; exact H) | exact H
               have Ny655 := Aside0.mk hy655
               clear hy655
               obtain ⟨y658, hy658⟩ : ∃ y_ : List Int, y_ = (([] : List Int)) := ⟨_, rfl⟩
               replace H : (spec_ReadRec.l0 kj33 a1 a2 t653 y655 y658 0 l0_0 l0_1 a0_2 a0_3) = some (r1, r2, r3) := by first | (rw [hy658]; with_reducible exact H) | (have H2_ := (Option.bind_some _ _).symm.trans H; rw [hy658]; with_reducible exact H2_) | (have H2_ := (Option.bind_some _ _).symm.trans H; with_reducible exact H2_) | with_reducible exact H | (rw [hy658]; exact H) | exact H
               have Ny658 := Aside0.mk hy658
               clear hy658
               have H' := Aside0.mk H
               clear H
               go_wp2_with (first | ((with_reducible refine gate_dst (N := 48) rfl ?_); refine Kd.R_lit (Kd.int .u8) _ 5 ?hg (N := 48) ?hd (xs := ([] : List Int)) (inner := []) (ok := fun _ => True) (okp := fun _ => True) ?hr ?hp (fun _ hk => hk) trivial (Below.refl _ _) (Nat.le_refl _) (by simp) ?_; (case hd => rfl); (case hg => rfl); (case hr => first | (go_simp; done) | (go_simp; rfl)); (case hp => exact (Reps.none _ _)); intro v656 w48 ho49 hb hg_ hnew_; clear hg_ hnew_; (first | rw [← Ny655.out] at ho49 | (simp only [Int.reduceToNat] at ho49; rw [← Ny655.out] at ho49)); have n0_ := Aside0.mk (Kd.R_lower ho49 (below_size (by repeat (first | (with_reducible first | exact HB.out | apply below_alloc | apply pw_below_drewN | apply below_drew1 | refine below_set ?_ GE640.out | refine below_set ?_ GE641.out) | exact HB.out)))); have n1_ := Aside0.mk (blk_below (g := gb640) (o := .cells #[.slice A0_0 l0_0.length c0_0, .slice A0_1 l0_1.length c0_1, .int .i64 a0_2, .bool a0_3] 25 (0, 0)) (by (with_reducible repeat (first | refine blk_drewN ?_ _ | refine blk_drew ?_ | refine blk_alloc ?_ _)); exact BK640.out) hb); have n2_ := Aside0.mk (blk_below (g := gb641) (o := .cells #[.bool false, .slice none 0 0, .int .i64 0] 49 (0, 0)) (by (with_reducible repeat (first | refine blk_drewN ?_ _ | refine blk_drew ?_ | refine blk_alloc ?_ _)); exact BK641.out) hb); have n3_ := Aside0.mk (below_step (by repeat (first | (with_reducible first | exact HB.out | apply below_alloc | apply pw_below_drewN | apply below_drew1 | refine below_set ?_ GE640.out | refine below_set ?_ GE641.out) | exact HB.out)) hb); clear BK640; clear BK641; clear HB; have HO657 := n0_; have BK640 := n1_; have BK641 := n2_; have HB := n3_; clear n0_ n1_ n2_ n3_; clear hb ho49) | ((with_reducible refine gate_dst (N := 49) rfl ?_); refine Kd.R_lit (Kd.int .u8) _ 5 ?hg (N := 49) ?hd (xs := ([] : List Int)) (inner := []) (ok := fun _ => True) (okp := fun _ => True) ?hr ?hp (fun _ hk => hk) trivial (Below.refl _ _) (Nat.le_refl _) (by simp) ?_; (case hd => rfl); (case hg => rfl); (case hr => first | (go_simp; done) | (go_simp; rfl)); (case hp => exact (Reps.none _ _)); intro v659 w50 ho51 hb hg_ hnew_; clear hg_ hnew_; (first | rw [← Ny658.out] at ho51 | (simp only [Int.reduceToNat] at ho51; rw [← Ny658.out] at ho51)); have n0_ := Aside0.mk (Kd.R_elder' (by (with_reducible repeat (first | apply Kd.R_alloc | apply Kd.R_drewN | apply Kd.R_drew)); exact HO657.out) (Kd.R_base ho51) hb); have n1_ := Aside0.mk (Kd.R_lower (Kd.R_new' ho51 (Kd.R_lt (by (with_reducible repeat (first | apply Kd.R_alloc | apply Kd.R_drewN | apply Kd.R_drew)); exact HO657.out))) (below_size (by repeat (first | (with_reducible first | exact HB.out | apply below_alloc | apply pw_below_drewN | apply below_drew1 | refine below_set ?_ GE640.out | refine below_set ?_ GE641.out) | exact HB.out)))); have n2_ := Aside0.mk (blk_below (g := gb640) (o := .cells #[.slice A0_0 l0_0.length c0_0, .slice A0_1 l0_1.length c0_1, .int .i64 a0_2, .bool a0_3] 25 (0, 0)) (by (with_reducible repeat (first | refine blk_drewN ?_ _ | refine blk_drew ?_ | refine blk_alloc ?_ _)); exact BK640.out) hb); have n3_ := Aside0.mk (blk_below (g := gb641) (o := .cells #[.bool false, .slice none 0 0, .int .i64 0] 49 (0, 0)) (by (with_reducible repeat (first | refine blk_drewN ?_ _ | refine blk_drew ?_ | refine blk_alloc ?_ _)); exact BK641.out) hb); have n4_ := Aside0.mk (below_step (by repeat (first | (with_reducible first | exact HB.out | apply below_alloc | apply pw_below_drewN | apply below_drew1 | refine below_set ?_ GE640.out | refine below_set ?_ GE641.out) | exact HB.out)) hb); clear HO657; clear BK640; clear BK641; clear HB; have HO657 := n0_; have HO660 := n1_; have BK640 := n2_; have BK641 := n3_; have HB := n4_; clear n0_ n1_ n2_ n3_ n4_; clear hb ho51))
               go_loopg [8, 9, 10] kj33 (fun kq v8 v9 v10 w' => ∃ (x8_3 : List Int) (x9_3 : List Int) (x10_3 : Int) (x642000_3 : Bool) (x642002_3 : Int), v10 = .int .i64 x10_3 ∧ Aside0 (spec_ReadRec.l0 kq a1 a2 t653 x8_3 x9_3 x10_3 l0_0 l0_1 a0_2 a0_3 = some (r1, r2, r3)) ∧ Aside0 (kq ≤ kj33) ∧ Aside0 (Kd.R (Kd.int .u8) 5 w' w.heap.size (fun k_ => some k_ ≠ (v9 : Value).ownBlock) v8 x8_3) ∧ Aside0 (Kd.R (Kd.int .u8) 5 w' w.heap.size (fun k_ => some k_ ≠ (v8 : Value).ownBlock) v9 x9_3) ∧ Aside0 (w'.heap[gb640]? = some (.cells #[(.slice A0_0 l0_0.length c0_0), (.slice A0_1 l0_1.length c0_1), .int .i64 a0_2, .bool a0_3] 25 (0, 0))) ∧ Aside0 (w'.heap[gb641]? = some (.cells #[.bool x642000_3, (.slice none 0 0), .int .i64 x642002_3] 49 (0, 0))) ∧ Aside0 (Below w.heap.size w w'))
               case atStart => exact ⟨(y655), (y658), (0), (false), (0), (by first | rfl | (simp; done) | (simp [*]; done)), H', ⟨Nat.le_refl _⟩, ⟨by (with_reducible repeat (first | apply Kd.R_alloc | apply Kd.R_drewN | apply Kd.R_drew)); exact Kd.R_mono HO657.out (fun _ hk => hk.2)⟩, ⟨by (with_reducible repeat (first | apply Kd.R_alloc | apply Kd.R_drewN | apply Kd.R_drew)); exact Kd.R_mono HO660.out (fun _ hk => hk.2)⟩, ⟨by (with_reducible repeat (first | refine blk_drewN ?_ _ | refine blk_drew ?_ | refine blk_alloc ?_ _)); exact BK640.out⟩, ⟨by (with_reducible repeat (first | refine blk_drewN ?_ _ | refine blk_drew ?_ | refine blk_alloc ?_ _)); exact BK641.out⟩, ⟨by repeat (first | (with_reducible first | exact HB.out | apply below_alloc | apply pw_below_drewN | apply below_drew1 | refine below_set ?_ GE640.out | refine below_set ?_ GE641.out) | exact HB.out)⟩⟩
               case round =>
                clear H'
                try clear c1
                try clear c2
                try clear p2
                try clear c3
                try clear q3
                try clear c4
                try clear c6
                try clear p6
                try clear c8
                try clear c10
                try clear c11
                try clear c11b0
                try clear c12
                try clear c16
                try clear c17
                try clear c21
                try clear c24
                try clear c25
                try clear c27
                try clear c28
                try clear c31
                try clear c31b0
                try clear c31b1
                try clear c32
                try clear c32b0
                try clear c32b1
                try clear c35
                try clear c38
                try clear q38
                try clear c40
                try clear c40b0
                try clear c42
                try clear c45
                try clear c46
                try clear hcz13_0
                try clear hcz13_1
                try clear hcz13_2
                try clear hcz13_3
                try clear hcz17_0
                try clear hcz17_1
                try clear hcz17_2
                try clear hcz17_3
                try clear hcz19_0
                try clear hcz19_1
                try clear hcz19_2
                try clear hcz19_3
                try clear hcz22_0
                try clear hcz22_1
                try clear hcz22_2
                try clear hcz22_3
                try clear hcz25_0
                try clear hcz25_1
                try clear hcz25_2
                try clear hcz25_3
                try clear hcz29_0
                try clear hcz29_1
                try clear hcz29_2
                try clear hcz36_0
                try clear hcz36_1
                try clear hcz36_2
                try clear hcz36_3
                try clear hcz43_0
                try clear hcz43_1
                try clear hcz43_2
                try clear hcz43_3
                try clear hcz47_0
                try clear hcz47_1
                try clear hcz47_2
                try clear hfz13_0
                try clear hfz13_1
                try clear hfz13_2
                try clear hfz13_3
                try clear hfz17_0
                try clear hfz17_1
                try clear hfz17_2
                try clear hfz17_3
                try clear hfz19_0
                try clear hfz19_1
                try clear hfz19_2
                try clear hfz19_3
                try clear hfz22_0
                try clear hfz22_1
                try clear hfz22_2
                try clear hfz22_3
                try clear hfz25_0
                try clear hfz25_1
                try clear hfz25_2
                try clear hfz25_3
                try clear hfz29_0
                try clear hfz29_1
                try clear hfz29_2
                try clear hfz36_0
                try clear hfz36_1
                try clear hfz36_2
                try clear hfz36_3
                try clear hfz43_0
                try clear hfz43_1
                try clear hfz43_2
                try clear hfz43_3
                try clear hfz47_0
                try clear hfz47_1
                try clear hfz47_2
                try clear p2
                try clear p6
                try clear q3
                try clear q38
                obtain ⟨x8_3, x9_3, x10_3, x642000_3, x642002_3, rfl, HA, HK3, HO_8, HO_9, BK640, BK641, HB⟩ := hrel
                cases gk with
                | zero => exact absurd HA.out (by simp [spec_ReadRec.l0])
                | succ k3 =>
                  have H := HA.out
                  clear HA
                  simp only [spec_ReadRec.l0] at H
                  by_cases c52 : x10_3 < t653
                  ·rw [if_pos c52] at H
                   have c52b0 : decide (x10_3 < t653) = true := decide_eq_true c52
                   clear c52
                   replace H := Option.bind_eq_some_iff.mp H
                   obtain ⟨t661, A530, H⟩ := H
                   replace H : (if 8 ≤ 10 then (if 10 ≤ (t661.length : Int) then ((spec_l2Get.f k3 ((t661.take 10).drop 8)).bind fun t669 => (if t669 > 48 then (some (false, ([] : List Int), 0)) else (if 12 ≤ (wrap64 (12 + t669)) then (if (wrap64 (12 + t669)) ≤ (t661.length : Int) then ((some ((t661.take ((wrap64 (12 + t669)) : Int).toNat).drop 12 : List Int)).bind fun y670 => (if x8_3.length + y670.length < 140737488355328 then (if x9_3.length + t661.length < 140737488355328 then (spec_ReadRec.l0 k3 a1 a2 t653 (x8_3 ++ y670) (x9_3 ++ t661) (wrap64 (x10_3 + 1)) l0_0 l0_1 a0_2 a0_3) else (none)) else (none))) else (none)) else (none)))) else (none)) else (none)) = some (r1, r2, r3) := H
                   have A53 := Aside0.mk A530
                   clear A530
                   by_cases c54 : 8 ≤ 10
                   ·rw [if_pos c54] at H
                    have c54b0 := eq_true c54
                    have c54b1 : decide (8 ≤ 10) = true := decide_eq_true c54
                    clear c54
                    by_cases c55 : 10 ≤ (t661.length : Int)
                    · rw [if_pos c55] at H
                      have c55b0 := eq_true c55
                      have c55b1 : decide (10 ≤ (t661.length : Int)) = true := decide_eq_true c55
                      clear c55
                      obtain ⟨y664, hy664⟩ : ∃ y_ : List Int, y_ = ((t661.take 10).drop 8) := ⟨_, rfl⟩
                      replace H : ((spec_l2Get.f k3 y664).bind fun t669 => (if t669 > 48 then (some (false, ([] : List Int), 0)) else (if 12 ≤ (wrap64 (12 + t669)) then (if (wrap64 (12 + t669)) ≤ (t661.length : Int) then ((some ((t661.take ((wrap64 (12 + t669)) : Int).toNat).drop 12 : List Int)).bind fun y670 => (if x8_3.length + y670.length < 140737488355328 then (if x9_3.length + t661.length < 140737488355328 then (spec_ReadRec.l0 k3 a1 a2 t653 (x8_3 ++ y670) (x9_3 ++ t661) (wrap64 (x10_3 + 1)) l0_0 l0_1 a0_2 a0_3) else (none)) else (none))) else (none)) else (none)))) = some (r1, r2, r3) := by first | (rw [hy664]; with_reducible exact H) | (have H2_ := (Option.bind_some _ _).symm.trans H; rw [hy664]; with_reducible exact H2_) | (have H2_ := (Option.bind_some _ _).symm.trans H; with_reducible exact H2_) | with_reducible exact H | (rw [hy664]; exact H) | exact H
                      have Ny664 := Aside0.mk hy664
                      clear hy664
                      replace H := Option.bind_eq_some_iff.mp H
                      obtain ⟨t669, A560, H⟩ := H
                      replace H : (if t669 > 48 then (some (false, ([] : List Int), 0)) else (if 12 ≤ (wrap64 (12 + t669)) then (if (wrap64 (12 + t669)) ≤ (t661.length : Int) then ((some ((t661.take ((wrap64 (12 + t669)) : Int).toNat).drop 12 : List Int)).bind fun y670 => (if x8_3.length + y670.length < 140737488355328 then (if x9_3.length + t661.length < 140737488355328 then (spec_ReadRec.l0 k3 a1 a2 t653 (x8_3 ++ y670) (x9_3 ++ t661) (wrap64 (x10_3 + 1)) l0_0 l0_1 a0_2 a0_3) else (none)) else (none))) else (none)) else (none))) = some (r1, r2, r3) := H
                      have A56 := Aside0.mk A560
                      clear A560
                      by_cases c57 : t669 > 48
                      · rw [if_pos c57] at H
                        have c57b0 : decide (48 < t669) = true := decide_eq_true c57
                        clear c57
                        simp only [Option.some.injEq, Prod.mk.injEq] at H
                        obtain ⟨rfl, rfl, rfl⟩ := H
                        have hnb58 := NB640_641.out
                        have hnc58 := NB641_640.out
                        have hcz59_0 : wr.cell? ⟨gb640, 0, none⟩ = some (.slice A0_0 l0_0.length c0_0) := (blk_cell BK640.out 0).trans rfl
                        have hcz59_1 : wr.cell? ⟨gb640, 1, none⟩ = some (.slice A0_1 l0_1.length c0_1) := (blk_cell BK640.out 1).trans rfl
                        have hcz59_2 : wr.cell? ⟨gb640, 2, none⟩ = some (.int .i64 a0_2) := (blk_cell BK640.out 2).trans rfl
                        have hcz59_3 : wr.cell? ⟨gb640, 3, none⟩ = some (.bool a0_3) := (blk_cell BK640.out 3).trans rfl
                        have hfz59_0 := blk_frozen BK640.out 0
                        have hfz59_1 := blk_frozen BK640.out 1
                        have hfz59_2 := blk_frozen BK640.out 2
                        have hfz59_3 := blk_frozen BK640.out 3
                        go_wp2_with (first | ((with_reducible refine gate_callee (f := 17) rfl ?_); refine goesL_ (some 59) rfl rfl Try.func17 (by kernel_rfl) rfl #[.agg #[.slice A0_0 l0_0.length c0_0, .slice A0_1 l0_1.length c0_1, .int .i64 a0_2, .bool a0_3], .int .i64 (wrap64 (a1 + x10_3))] rfl (by (try simp only [List.map_toArray, List.map_cons, List.map_nil]); first | done | rfl | (simp only [List.length_drop, List.length_take]; rfl)) ?_; (with_reducible refine (spec_DiskRead.calls k3 _ _ l0_0 _ _ l0_1 a0_2 a0_3 (wrap64 (a1 + x10_3)) t661 _ ?side1 ?side2 ?side3 ?side4 A53.out).mono ?_); (case side1 => repeat (first | exact (Kd.C_below HR0_0.out HB.out) | (with_reducible refine Kd.C_alloc ?_ _) | (with_reducible refine Kd.C_drewN ?_ _) | (with_reducible refine Kd.C_drew ?_))); (case side2 => exact HC0_0.out); (case side3 => repeat (first | exact (Kd.C_below HR0_1.out HB.out) | (with_reducible refine Kd.C_alloc ?_ _) | (with_reducible refine Kd.C_drewN ?_ _) | (with_reducible refine Kd.C_drew ?_))); (case side4 => exact HC0_1.out); rintro e w60 ⟨v662, rfl, ho0, hb⟩; refine ⟨_, rfl, ?_⟩; have n0_ := Aside0.mk (Kd.R_elder' (by (with_reducible repeat (first | apply Kd.R_alloc | apply Kd.R_drewN | apply Kd.R_drew)); exact HO_8.out) (Kd.R_base ho0) hb); have n1_ := Aside0.mk (Kd.R_elder' (by (with_reducible repeat (first | apply Kd.R_alloc | apply Kd.R_drewN | apply Kd.R_drew)); exact HO_9.out) (Kd.R_base ho0) hb); have n2_ := Aside0.mk (Kd.R_lower (Kd.R_new' (Kd.R_new' ho0 (Kd.R_lt (by (with_reducible repeat (first | apply Kd.R_alloc | apply Kd.R_drewN | apply Kd.R_drew)); exact HO_8.out))) (Kd.R_lt (by (with_reducible repeat (first | apply Kd.R_alloc | apply Kd.R_drewN | apply Kd.R_drew)); exact HO_9.out))) (below_size (by repeat (first | (with_reducible first | exact HB.out | apply below_alloc | apply pw_below_drewN | apply below_drew1 | refine below_set ?_ GE640.out | refine below_set ?_ GE641.out) | exact HB.out)))); have n3_ := Aside0.mk (blk_below (g := gb640) (o := .cells #[.slice A0_0 l0_0.length c0_0, .slice A0_1 l0_1.length c0_1, .int .i64 a0_2, .bool a0_3] 25 (0, 0)) (by (with_reducible repeat (first | refine blk_drewN ?_ _ | refine blk_drew ?_ | refine blk_alloc ?_ _)); exact BK640.out) hb); have n4_ := Aside0.mk (blk_below (g := gb641) (o := .cells #[.bool x642000_3, .slice none 0 0, .int .i64 x642002_3] 49 (0, 0)) (by (with_reducible repeat (first | refine blk_drewN ?_ _ | refine blk_drew ?_ | refine blk_alloc ?_ _)); exact BK641.out) hb); have n5_ := Aside0.mk (below_step (by repeat (first | (with_reducible first | exact HB.out | apply below_alloc | apply pw_below_drewN | apply below_drew1 | refine below_set ?_ GE640.out | refine below_set ?_ GE641.out) | exact HB.out)) hb); clear HO_8; clear HO_9; clear BK640; clear BK641; clear HB; have HO_8 := n0_; have HO_9 := n1_; have HO663 := n2_; have BK640 := n3_; have BK641 := n4_; have HB := n5_; clear n0_ n1_ n2_ n3_ n4_ n5_; (try clear hb); (try clear hb2); (try clear hk); (try clear hi); (try clear ho0); obtain ⟨Ao62, co62, eo62⟩ := Kd.R_slice HO663.out; subst eo62; have q61 : (10 : Int) ≤ ((t661.length : Int) : Int) := of_decide_eq_true (by first | (with_reducible assumption) | assumption); obtain ⟨i061, hi061, _, hsz61, _⟩ := info_parts info5; have hroom61 : t661.length ≤ co62 := (Kd.R_reads' HO663.out).2.1; have hC61 : Kd.F (Kd.int .u8) _ _ Ao62 t661.length t661 := (Kd.V_at (base := w.heap.size) (Kd.R_V (Kd.R_types (Kd.R_types (HO663.out) BK640.out (by decide)) BK641.out (by decide)))).2.2; have ql61 : (8 : Int) ≤ (10 : Int) := (by omega); have hcut61 := cut_mid (P := Try.prog) 22 5 .i64 .i64 Try.underlying22 hi061 1 hsz61 Ao62 t661.length co62 8 10 (by omega) ql61 q61 hroom61; have hr61 := Kd.F_mid (lo := (8 : Int).toNat) (hi := (10 : Int).toNat) (c := co62) hC61 (by omega) (by omega) hroom61; obtain ⟨A61, hA61⟩ : ∃ A1, A1 = (if co62 = (8 : Int).toNat then Ao62 else (Ao62 : Option Addr).map (·.add ((8 : Int).toNat * 1))) := ⟨_, rfl⟩; obtain ⟨c61, hc61⟩ : ∃ c1, c1 = co62 - (8 : Int).toNat := ⟨_, rfl⟩; have hy61 : y664.length = (10 : Int).toNat - (8 : Int).toNat := (by rw [Ny664.out, List.length_drop, List.length_take] <;> omega); rw [show ((t661).take (10 : Int).toNat).drop (8 : Int).toNat = y664 from Ny664.out.symm] at hr61; replace hr61 : Kd.F (Kd.int .u8) _ _ A61 y664.length y664 := (by rw [hA61]; exact hr61); rw [← hy61, ← hA61, ← hc61] at hcut61; have HO668 := Aside0.mk (show Kd.V (Kd.int .u8) 5 _ w.heap.size _ (.slice A61 y664.length c61) y664 from Kd.V_mk (by rw [hy61, hc61]; exact Nat.sub_le_sub_right (Nat.le_trans (by omega) hroom61) _) hr61); have HC668 := Aside0.mk (show y664.length ≤ c61 from by rw [hy61, hc61]; exact Nat.sub_le_sub_right (Nat.le_trans (by omega) hroom61) _); clear hr61 hC61 hroom61 hi061 hsz61 hc61; have KY61 := Aside0.mk hy61; have KA61 := Aside0.mk hA61; clear hy61 hA61; replace q61 := eq_true q61) | ((with_reducible refine gate_callee (f := 67) rfl ?_); refine goesL_ (some 62) rfl rfl Try.func67 (by kernel_rfl) rfl #[.slice A61 y664.length c61] rfl (by (try simp only [List.map_toArray, List.map_cons, List.map_nil]); first | done | rfl | (simp only [List.length_drop, List.length_take]; rfl)) ?_; (with_reducible refine (spec_l2Get.calls k3 _ _ y664 t669 _ ?side1 ?side2 A56.out).mono ?_); (case side1 => repeat (first | exact (Kd.V_reads' HO668.out).2.2 | (with_reducible refine Kd.C_alloc ?_ _) | (with_reducible refine Kd.C_drewN ?_ _) | (with_reducible refine Kd.C_drew ?_))); (case side2 => exact (Kd.V_reads' HO668.out).2.1); rintro e w' ⟨rfl, ⟨nd, rfl⟩⟩; refine ⟨_, rfl, ?_⟩; (try (rw [drewN_self w60]; generalize hq_ : World.drewN w60 _ = w60; have n0_ : Aside0 (Kd.R (Kd.int .u8) 5 w60 w.heap.size (fun k_ => some k_ ≠ (u8 : Value).ownBlock ∧ some k_ ≠ (u9 : Value).ownBlock) (.slice Ao62 t661.length co62) t661) := ⟨by rw [← hq_]; exact (by (with_reducible repeat (first | apply Kd.R_alloc | apply Kd.R_drewN | apply Kd.R_drew)); exact Kd.R_mono HO663.out (fun _ hk => ⟨hk.1.2, hk.2⟩))⟩; have n1_ : Aside0 (Kd.V (Kd.int .u8) 5 w60 w.heap.size (fun k_ => some k_ ≠ (u8 : Value).ownBlock ∧ some k_ ≠ (u9 : Value).ownBlock ∧ k_ ≠ gb640 ∧ k_ ≠ gb641) (.slice A61 y664.length c61) y664) := ⟨by rw [← hq_]; exact (by (with_reducible repeat (first | apply Kd.V_alloc | apply Kd.V_drewN | apply Kd.V_drew)); exact Kd.V_mono HO668.out (fun _ hk => ⟨hk.1.1.1.2, ⟨hk.1.1.2, ⟨hk.1.2, hk.2⟩⟩⟩))⟩; have n2_ : Aside0 (Kd.R (Kd.int .u8) 5 w60 w.heap.size (fun k_ => some k_ ≠ (.slice Ao62 t661.length co62 : Value).ownBlock ∧ some k_ ≠ (u9 : Value).ownBlock) u8 x8_3) := ⟨by rw [← hq_]; exact (by (with_reducible repeat (first | apply Kd.R_alloc | apply Kd.R_drewN | apply Kd.R_drew)); exact Kd.R_mono HO_8.out (fun _ hk => ⟨hk.2, hk.1⟩))⟩; have n3_ : Aside0 (Kd.R (Kd.int .u8) 5 w60 w.heap.size (fun k_ => some k_ ≠ (.slice Ao62 t661.length co62 : Value).ownBlock ∧ some k_ ≠ (u8 : Value).ownBlock) u9 x9_3) := ⟨by rw [← hq_]; exact (by (with_reducible repeat (first | apply Kd.R_alloc | apply Kd.R_drewN | apply Kd.R_drew)); exact Kd.R_mono HO_9.out (fun _ hk => ⟨hk.2, hk.1⟩))⟩; have n4_ : Aside0 (w60.heap[gb640]? = some (.cells #[.slice A0_0 l0_0.length c0_0, .slice A0_1 l0_1.length c0_1, .int .i64 a0_2, .bool a0_3] 25 (0, 0))) := ⟨by rw [← hq_]; exact (by (with_reducible repeat (first | refine blk_drewN ?_ _ | refine blk_drew ?_ | refine blk_alloc ?_ _)); exact BK640.out)⟩; have n5_ : Aside0 (w60.heap[gb641]? = some (.cells #[.bool x642000_3, .slice none 0 0, .int .i64 x642002_3] 49 (0, 0))) := ⟨by rw [← hq_]; exact (by (with_reducible repeat (first | refine blk_drewN ?_ _ | refine blk_drew ?_ | refine blk_alloc ?_ _)); exact BK641.out)⟩; have n6_ : Aside0 (Below w.heap.size w w60) := ⟨by rw [← hq_]; exact (by repeat (first | (with_reducible first | exact HB.out | apply below_alloc | apply pw_below_drewN | apply below_drew1 | refine below_set ?_ GE640.out | refine below_set ?_ GE641.out) | exact HB.out))⟩; clear HO663 HO668 HO_8 HO_9 BK640 BK641 HB hq_; have HO663 := n0_; have HO668 := n1_; have HO_8 := n2_; have HO_9 := n3_; have BK640 := n4_; have BK641 := n5_; have HB := n6_; clear n0_ n1_ n2_ n3_ n4_ n5_ n6_)); have hcz63_0 : w60.cell? ⟨gb641, 0, none⟩ = some (.bool x642000_3) := (blk_cell BK641.out 0).trans rfl; have hcz63_1 : w60.cell? ⟨gb641, 1, none⟩ = some (.slice none 0 0) := (blk_cell BK641.out 1).trans rfl; have hcz63_2 : w60.cell? ⟨gb641, 2, none⟩ = some (.int .i64 x642002_3) := (blk_cell BK641.out 2).trans rfl; have hfz63_0 := blk_frozen BK641.out 0; have hfz63_1 := blk_frozen BK641.out 1; have hfz63_2 := blk_frozen BK641.out 2))
                        refine bodyPost_ret (results_cell_row rfl _ _ gb641 49 #[.bool false, .slice none 0 0, .int .i64 0] (0, 0) _ rfl (by (with_reducible repeat (first | refine blk_drewN ?_ _ | refine blk_drew ?_ | refine blk_alloc ?_ _)); refine blk_put (cs := #[.bool false, .slice none 0 0, .int .i64 x642002_3]) ?_ 2 _ rfl; (with_reducible repeat (first | refine blk_drewN ?_ _ | refine blk_drew ?_ | refine blk_alloc ?_ _)); refine blk_put (cs := #[.bool false, .slice none 0 0, .int .i64 x642002_3]) ?_ 1 _ rfl; (with_reducible repeat (first | refine blk_drewN ?_ _ | refine blk_drew ?_ | refine blk_alloc ?_ _)); refine blk_put (cs := #[.bool x642000_3, .slice none 0 0, .int .i64 x642002_3]) ?_ 0 _ rfl; (with_reducible repeat (first | refine blk_drewN ?_ _ | refine blk_drew ?_ | refine blk_alloc ?_ _)); exact BK641.out) Try.underlying49 rfl (by kernel_rfl)) rfl ?_
                        exact ⟨_, by first | rfl | (simp [errW_none, errW_some] <;> rfl) | (simp [*, errW_none, errW_some] <;> rfl), by first | exact Kd.R_nil _ _ _ _ _ | exact Kd.N_nil _ _ _ _ _ | exact Kd.V_nil _ _ _ _ _ | exact Kd.Q_nil _ _ _ _ _ | exact Kd.S_nil _ _ _ _ _, by repeat (first | (with_reducible first | exact HB.out | apply below_alloc | apply pw_below_drewN | apply below_drew1 | refine below_set ?_ GE640.out | refine below_set ?_ GE641.out) | exact HB.out)⟩
                      · rw [if_neg c57] at H
                        have c57b0 : decide (48 < t669) = false := decide_eq_false c57
                        clear c57
                        by_cases c64 : 12 ≤ (wrap64 (12 + t669))
                        ·rw [if_pos c64] at H
                         have c64b0 := eq_true c64
                         have c64b1 : decide (12 ≤ (wrap64 (12 + t669))) = true := decide_eq_true c64
                         by_cases c65 : (wrap64 (12 + t669)) ≤ (t661.length : Int)
                         ·rw [if_pos c65] at H
                          have c65b0 := eq_true c65
                          have c65b1 : decide ((wrap64 (12 + t669)) ≤ (t661.length : Int)) = true := decide_eq_true c65
                          obtain ⟨y670, hy670⟩ : ∃ y_ : List Int, y_ = ((t661.take ((wrap64 (12 + t669)) : Int).toNat).drop 12) := ⟨_, rfl⟩
                          replace H : (if x8_3.length + y670.length < 140737488355328 then (if x9_3.length + t661.length < 140737488355328 then (spec_ReadRec.l0 k3 a1 a2 t653 (x8_3 ++ y670) (x9_3 ++ t661) (wrap64 (x10_3 + 1)) l0_0 l0_1 a0_2 a0_3) else (none)) else (none)) = some (r1, r2, r3) := by first | (rw [hy670]; with_reducible exact H) | (have H2_ := (Option.bind_some _ _).symm.trans H; rw [hy670]; with_reducible exact H2_) | (have H2_ := (Option.bind_some _ _).symm.trans H; with_reducible exact H2_) | with_reducible exact H | (rw [hy670]; exact H) | exact H
                          have Ny670 := Aside0.mk hy670
                          clear hy670
                          by_cases c66 : x8_3.length + y670.length < 140737488355328
                          ·rw [if_pos c66] at H
                           have LMc66 := Aside0.mk c66
                           clear c66
                           obtain ⟨y675, hy675⟩ : ∃ y_ : List Int, y_ = (x8_3 ++ y670) := ⟨_, rfl⟩
                           replace H : (if x9_3.length + t661.length < 140737488355328 then (spec_ReadRec.l0 k3 a1 a2 t653 y675 (x9_3 ++ t661) (wrap64 (x10_3 + 1)) l0_0 l0_1 a0_2 a0_3) else (none)) = some (r1, r2, r3) := by first | (rw [hy675]; with_reducible exact H) | (have H2_ := (Option.bind_some _ _).symm.trans H; rw [hy675]; with_reducible exact H2_) | (have H2_ := (Option.bind_some _ _).symm.trans H; with_reducible exact H2_) | with_reducible exact H | (rw [hy675]; exact H) | exact H
                           have Ny675 := Aside0.mk hy675
                           clear hy675
                           by_cases c67 : x9_3.length + t661.length < 140737488355328
                           ·rw [if_pos c67] at H
                            have LMc67 := Aside0.mk c67
                            clear c67
                            obtain ⟨y678, hy678⟩ : ∃ y_ : List Int, y_ = (x9_3 ++ t661) := ⟨_, rfl⟩
                            replace H : (spec_ReadRec.l0 k3 a1 a2 t653 y675 y678 (wrap64 (x10_3 + 1)) l0_0 l0_1 a0_2 a0_3) = some (r1, r2, r3) := by first | (rw [hy678]; with_reducible exact H) | (have H2_ := (Option.bind_some _ _).symm.trans H; rw [hy678]; with_reducible exact H2_) | (have H2_ := (Option.bind_some _ _).symm.trans H; with_reducible exact H2_) | with_reducible exact H | (rw [hy678]; exact H) | exact H
                            have Ny678 := Aside0.mk hy678
                            clear hy678
                            have H' := Aside0.mk H
                            clear H
                            have hnb68 := NB640_641.out
                            have hnc68 := NB641_640.out
                            have hcz69_0 : wr.cell? ⟨gb640, 0, none⟩ = some (.slice A0_0 l0_0.length c0_0) := (blk_cell BK640.out 0).trans rfl
                            have hcz69_1 : wr.cell? ⟨gb640, 1, none⟩ = some (.slice A0_1 l0_1.length c0_1) := (blk_cell BK640.out 1).trans rfl
                            have hcz69_2 : wr.cell? ⟨gb640, 2, none⟩ = some (.int .i64 a0_2) := (blk_cell BK640.out 2).trans rfl
                            have hcz69_3 : wr.cell? ⟨gb640, 3, none⟩ = some (.bool a0_3) := (blk_cell BK640.out 3).trans rfl
                            have hfz69_0 := blk_frozen BK640.out 0
                            have hfz69_1 := blk_frozen BK640.out 1
                            have hfz69_2 := blk_frozen BK640.out 2
                            have hfz69_3 := blk_frozen BK640.out 3
                            go_wp2_with (first | ((with_reducible refine gate_callee (f := 17) rfl ?_); refine goesL_ (some 59) rfl rfl Try.func17 (by kernel_rfl) rfl #[.agg #[.slice A0_0 l0_0.length c0_0, .slice A0_1 l0_1.length c0_1, .int .i64 a0_2, .bool a0_3], .int .i64 (wrap64 (a1 + x10_3))] rfl (by (try simp only [List.map_toArray, List.map_cons, List.map_nil]); first | done | rfl | (simp only [List.length_drop, List.length_take]; rfl)) ?_; (with_reducible refine (spec_DiskRead.calls k3 _ _ l0_0 _ _ l0_1 a0_2 a0_3 (wrap64 (a1 + x10_3)) t661 _ ?side1 ?side2 ?side3 ?side4 A53.out).mono ?_); (case side1 => repeat (first | exact (Kd.C_below HR0_0.out HB.out) | (with_reducible refine Kd.C_alloc ?_ _) | (with_reducible refine Kd.C_drewN ?_ _) | (with_reducible refine Kd.C_drew ?_))); (case side2 => exact HC0_0.out); (case side3 => repeat (first | exact (Kd.C_below HR0_1.out HB.out) | (with_reducible refine Kd.C_alloc ?_ _) | (with_reducible refine Kd.C_drewN ?_ _) | (with_reducible refine Kd.C_drew ?_))); (case side4 => exact HC0_1.out); rintro e w70 ⟨v662, rfl, ho0, hb⟩; refine ⟨_, rfl, ?_⟩; have n0_ := Aside0.mk (Kd.R_elder' (by (with_reducible repeat (first | apply Kd.R_alloc | apply Kd.R_drewN | apply Kd.R_drew)); exact HO_8.out) (Kd.R_base ho0) hb); have n1_ := Aside0.mk (Kd.R_elder' (by (with_reducible repeat (first | apply Kd.R_alloc | apply Kd.R_drewN | apply Kd.R_drew)); exact HO_9.out) (Kd.R_base ho0) hb); have n2_ := Aside0.mk (Kd.R_lower (Kd.R_new' (Kd.R_new' ho0 (Kd.R_lt (by (with_reducible repeat (first | apply Kd.R_alloc | apply Kd.R_drewN | apply Kd.R_drew)); exact HO_8.out))) (Kd.R_lt (by (with_reducible repeat (first | apply Kd.R_alloc | apply Kd.R_drewN | apply Kd.R_drew)); exact HO_9.out))) (below_size (by repeat (first | (with_reducible first | exact HB.out | apply below_alloc | apply pw_below_drewN | apply below_drew1 | refine below_set ?_ GE640.out | refine below_set ?_ GE641.out) | exact HB.out)))); have n3_ := Aside0.mk (blk_below (g := gb640) (o := .cells #[.slice A0_0 l0_0.length c0_0, .slice A0_1 l0_1.length c0_1, .int .i64 a0_2, .bool a0_3] 25 (0, 0)) (by (with_reducible repeat (first | refine blk_drewN ?_ _ | refine blk_drew ?_ | refine blk_alloc ?_ _)); exact BK640.out) hb); have n4_ := Aside0.mk (blk_below (g := gb641) (o := .cells #[.bool x642000_3, .slice none 0 0, .int .i64 x642002_3] 49 (0, 0)) (by (with_reducible repeat (first | refine blk_drewN ?_ _ | refine blk_drew ?_ | refine blk_alloc ?_ _)); exact BK641.out) hb); have n5_ := Aside0.mk (below_step (by repeat (first | (with_reducible first | exact HB.out | apply below_alloc | apply pw_below_drewN | apply below_drew1 | refine below_set ?_ GE640.out | refine below_set ?_ GE641.out) | exact HB.out)) hb); clear HO_8; clear HO_9; clear BK640; clear BK641; clear HB; have HO_8 := n0_; have HO_9 := n1_; have HO663 := n2_; have BK640 := n3_; have BK641 := n4_; have HB := n5_; clear n0_ n1_ n2_ n3_ n4_ n5_; (try clear hb); (try clear hb2); (try clear hk); (try clear hi); (try clear ho0); obtain ⟨Ao72, co72, eo72⟩ := Kd.R_slice HO663.out; subst eo72; have q71 : (10 : Int) ≤ ((t661.length : Int) : Int) := of_decide_eq_true (by first | (with_reducible assumption) | assumption); obtain ⟨i071, hi071, _, hsz71, _⟩ := info_parts info5; have hroom71 : t661.length ≤ co72 := (Kd.R_reads' HO663.out).2.1; have hC71 : Kd.F (Kd.int .u8) _ _ Ao72 t661.length t661 := (Kd.V_at (base := w.heap.size) (Kd.R_V (Kd.R_types (Kd.R_types (HO663.out) BK640.out (by decide)) BK641.out (by decide)))).2.2; have ql71 : (8 : Int) ≤ (10 : Int) := (by omega); have hcut71 := cut_mid (P := Try.prog) 22 5 .i64 .i64 Try.underlying22 hi071 1 hsz71 Ao72 t661.length co72 8 10 (by omega) ql71 q71 hroom71; have hr71 := Kd.F_mid (lo := (8 : Int).toNat) (hi := (10 : Int).toNat) (c := co72) hC71 (by omega) (by omega) hroom71; obtain ⟨A71, hA71⟩ : ∃ A1, A1 = (if co72 = (8 : Int).toNat then Ao72 else (Ao72 : Option Addr).map (·.add ((8 : Int).toNat * 1))) := ⟨_, rfl⟩; obtain ⟨c71, hc71⟩ : ∃ c1, c1 = co72 - (8 : Int).toNat := ⟨_, rfl⟩; have hy71 : y664.length = (10 : Int).toNat - (8 : Int).toNat := (by rw [Ny664.out, List.length_drop, List.length_take] <;> omega); rw [show ((t661).take (10 : Int).toNat).drop (8 : Int).toNat = y664 from Ny664.out.symm] at hr71; replace hr71 : Kd.F (Kd.int .u8) _ _ A71 y664.length y664 := (by rw [hA71]; exact hr71); rw [← hy71, ← hA71, ← hc71] at hcut71; have HO668 := Aside0.mk (show Kd.V (Kd.int .u8) 5 _ w.heap.size _ (.slice A71 y664.length c71) y664 from Kd.V_mk (by rw [hy71, hc71]; exact Nat.sub_le_sub_right (Nat.le_trans (by omega) hroom71) _) hr71); have HC668 := Aside0.mk (show y664.length ≤ c71 from by rw [hy71, hc71]; exact Nat.sub_le_sub_right (Nat.le_trans (by omega) hroom71) _); clear hr71 hC71 hroom71 hi071 hsz71 hc71; have KY71 := Aside0.mk hy71; have KA71 := Aside0.mk hA71; clear hy71 hA71; replace q71 := eq_true q71) | ((with_reducible refine gate_callee (f := 67) rfl ?_); refine goesL_ (some 62) rfl rfl Try.func67 (by kernel_rfl) rfl #[.slice A71 y664.length c71] rfl (by (try simp only [List.map_toArray, List.map_cons, List.map_nil]); first | done | rfl | (simp only [List.length_drop, List.length_take]; rfl)) ?_; (with_reducible refine (spec_l2Get.calls k3 _ _ y664 t669 _ ?side1 ?side2 A56.out).mono ?_); (case side1 => repeat (first | exact (Kd.V_reads' HO668.out).2.2 | (with_reducible refine Kd.C_alloc ?_ _) | (with_reducible refine Kd.C_drewN ?_ _) | (with_reducible refine Kd.C_drew ?_))); (case side2 => exact (Kd.V_reads' HO668.out).2.1); rintro e w' ⟨rfl, ⟨nd, rfl⟩⟩; refine ⟨_, rfl, ?_⟩; have q73 : ((wrap64 (12 + t669)) : Int) ≤ ((t661.length : Int) : Int) := of_decide_eq_true (by first | (with_reducible assumption) | assumption); obtain ⟨i073, hi073, _, hsz73, _⟩ := info_parts info5; have hroom73 : t661.length ≤ co72 := (Kd.R_reads' HO663.out).2.1; have hC73 : Kd.F (Kd.int .u8) _ _ Ao72 t661.length t661 := (Kd.V_at (base := w.heap.size) (Kd.R_V (Kd.R_types (Kd.R_types (HO663.out) BK640.out (by decide)) BK641.out (by decide)))).2.2; have ql73 : (12 : Int) ≤ ((wrap64 (12 + t669)) : Int) := of_decide_eq_true (by first | (with_reducible assumption) | assumption); have hcut73 := cut_mid (P := Try.prog) 22 5 .i64 .i64 Try.underlying22 hi073 1 hsz73 Ao72 t661.length co72 12 (wrap64 (12 + t669)) (by omega) ql73 q73 hroom73; have hr73 := Kd.F_mid (lo := (12 : Int).toNat) (hi := ((wrap64 (12 + t669)) : Int).toNat) (c := co72) hC73 (by omega) (by omega) hroom73; obtain ⟨A73, hA73⟩ : ∃ A1, A1 = (if co72 = (12 : Int).toNat then Ao72 else (Ao72 : Option Addr).map (·.add ((12 : Int).toNat * 1))) := ⟨_, rfl⟩; obtain ⟨c73, hc73⟩ : ∃ c1, c1 = co72 - (12 : Int).toNat := ⟨_, rfl⟩; have hy73 : y670.length = ((wrap64 (12 + t669)) : Int).toNat - (12 : Int).toNat := (by rw [Ny670.out, List.length_drop, List.length_take] <;> omega); rw [show ((t661).take ((wrap64 (12 + t669)) : Int).toNat).drop (12 : Int).toNat = y670 from Ny670.out.symm] at hr73; replace hr73 : Kd.F (Kd.int .u8) _ _ A73 y670.length y670 := (by rw [hA73]; exact hr73); rw [← hy73, ← hA73, ← hc73] at hcut73; have HO674 := Aside0.mk (show Kd.V (Kd.int .u8) 5 _ w.heap.size _ (.slice A73 y670.length c73) y670 from Kd.V_mk (by rw [hy73, hc73]; exact Nat.sub_le_sub_right (Nat.le_trans (by omega) hroom73) _) hr73); have HC674 := Aside0.mk (show y670.length ≤ c73 from by rw [hy73, hc73]; exact Nat.sub_le_sub_right (Nat.le_trans (by omega) hroom73) _); clear hr73 hC73 hroom73 hi073 hsz73 hc73; have KY73 := Aside0.mk hy73; have KA73 := Aside0.mk hA73; clear hy73 hA73; replace q73 := eq_true q73) | ((with_reducible refine gate_builtin (b := .append) (xs := #[.tmp 66, .tmp 70]) rfl ?_); at_builtin; refine Kd.R_append_rows (Kd.int .u8) (w0 := w) w.heap.size rfl (.tmp 66) (.tmp 70) 22 5 (.int .u8 0) 1 rfl Try.underlying22 info5 rfl (by decide) (by omega) u8 x8_3 y670 _ _ _ (fun k_ => some k_ ≠ (u9 : Value).ownBlock ∧ some k_ ≠ (.slice Ao72 t661.length co72 : Value).ownBlock) (fun _ => False) rfl rfl ?aO ?aR (fun _ _ h => h) (fun _ h => h.elim) ?aF ?aB ?aS ?aL ?_; (case aR => repeat (first | exact (Kd.V_reads' HO674.out).2.2 | (with_reducible refine Kd.C_alloc ?_ _) | (with_reducible refine Kd.C_drewN ?_ _) | (with_reducible refine Kd.C_drew ?_))); (case aB => exact (by repeat (first | (with_reducible first | exact HB.out | apply below_alloc | apply pw_below_drewN | apply below_drew1 | refine below_set ?_ GE640.out | refine below_set ?_ GE641.out) | exact HB.out))); (case aF => exact (fun k_ hk => ⟨Kd.fresh' (Kd.R_lt (by (with_reducible repeat (first | apply Kd.R_alloc | apply Kd.R_drewN | apply Kd.R_drew)); exact HO_9.out)) k_ hk, Kd.fresh' (Kd.R_lt (by (with_reducible repeat (first | apply Kd.R_alloc | apply Kd.R_drewN | apply Kd.R_drew)); exact HO663.out)) k_ hk⟩)); (case aO => exact (by (with_reducible repeat (first | apply Kd.R_alloc | apply Kd.R_drewN | apply Kd.R_drew)); exact HO_8.out)); (case aS => exact (below_size (by repeat (first | (with_reducible first | exact HB.out | apply below_alloc | apply pw_below_drewN | apply below_drew1 | refine below_set ?_ GE640.out | refine below_set ?_ GE641.out) | exact HB.out)))); (case aL => have := LMc66.out; omega); intro v676 w74 ho hb hg hat; rw [← Ny675.out] at ho; have n0_ := Aside0.mk (Kd.R_after (ok := (fun k_ => some k_ ≠ (.slice Ao72 t661.length co72 : Value).ownBlock)) (by (with_reducible repeat (first | apply Kd.R_alloc | apply Kd.R_drewN | apply Kd.R_drew)); exact Kd.R_mono HO_9.out (fun _ hk => ⟨hk.2, hk.1⟩)) hg hat); have n1_ := Aside0.mk (blk_grown (g := gb640) (o := .cells #[.slice A0_0 l0_0.length c0_0, .slice A0_1 l0_1.length c0_1, .int .i64 a0_2, .bool a0_3] 25 (0, 0)) (by (with_reducible repeat (first | refine blk_drewN ?_ _ | refine blk_drew ?_ | refine blk_alloc ?_ _)); exact BK640.out) hg (Kd.R_ne HO_8.out BK640.out (by decide))); have n2_ := Aside0.mk (blk_grown (g := gb641) (o := .cells #[.bool x642000_3, .slice none 0 0, .int .i64 x642002_3] 49 (0, 0)) (by (with_reducible repeat (first | refine blk_drewN ?_ _ | refine blk_drew ?_ | refine blk_alloc ?_ _)); exact BK641.out) hg (Kd.R_ne HO_8.out BK641.out (by decide))); have n3_ := Aside0.mk (Kd.R_after (ok := (fun k_ => some k_ ≠ (u9 : Value).ownBlock)) (by (with_reducible repeat (first | apply Kd.R_alloc | apply Kd.R_drewN | apply Kd.R_drew)); exact Kd.R_mono HO663.out (fun _ hk => ⟨hk.2, hk.1.2⟩)) hg hat); have n4_ := Aside0.mk (Kd.V_afterv (ok := (fun k_ => some k_ ≠ (u9 : Value).ownBlock ∧ k_ ≠ gb640 ∧ k_ ≠ gb641)) (by (with_reducible repeat (first | apply Kd.V_alloc | apply Kd.V_drewN | apply Kd.V_drew)); exact Kd.V_mono HO668.out (fun _ hk => ⟨⟨hk.1.1.2, ⟨hk.1.2, hk.2⟩⟩, hk.1.1.1.2⟩)) hg hat); have n5_ := Aside0.mk (Kd.V_afterv (ok := (fun k_ => some k_ ≠ (u9 : Value).ownBlock ∧ k_ ≠ gb640 ∧ k_ ≠ gb641)) (by (with_reducible repeat (first | apply Kd.V_alloc | apply Kd.V_drewN | apply Kd.V_drew)); exact Kd.V_mono HO674.out (fun _ hk => ⟨⟨hk.1.1.2, ⟨hk.1.2, hk.2⟩⟩, hk.1.1.1.2⟩)) hg hat); have n6_ := Aside0.mk (hb); have n7_ := Aside0.mk (ho); clear HO_9; clear BK640; clear BK641; clear HO663; clear HO668; clear HO674; clear HB; clear HO_8; have HO_9 := n0_; have BK640 := n1_; have BK641 := n2_; have HO663 := n3_; have HO668 := n4_; have HO674 := n5_; have HB := n6_; have HO677 := n7_; clear n0_ n1_ n2_ n3_ n4_ n5_ n6_ n7_; clear ho hb hg hat) | ((with_reducible refine gate_builtin (b := .append) (xs := #[.tmp 72, .tmp 73]) rfl ?_); at_builtin; refine Kd.R_append_rows (Kd.int .u8) (w0 := w) w.heap.size rfl (.tmp 72) (.tmp 73) 22 5 (.int .u8 0) 1 rfl Try.underlying22 info5 rfl (by decide) (by omega) u9 x9_3 t661 _ _ _ (fun k_ => some k_ ≠ (.slice Ao72 t661.length co72 : Value).ownBlock ∧ some k_ ≠ (v676 : Value).ownBlock) (fun _ => False) rfl rfl ?aO ?aR (fun _ _ h => h) (fun _ h => h.elim) ?aF ?aB ?aS ?aL ?_; (case aR => repeat (first | exact (Kd.R_reads' HO663.out).2.2 | (with_reducible refine Kd.C_alloc ?_ _) | (with_reducible refine Kd.C_drewN ?_ _) | (with_reducible refine Kd.C_drew ?_))); (case aB => exact (by repeat (first | (with_reducible first | exact HB.out | apply below_alloc | apply pw_below_drewN | apply below_drew1 | refine below_set ?_ GE640.out | refine below_set ?_ GE641.out) | exact HB.out))); (case aF => exact (fun k_ hk => ⟨Kd.fresh' (Kd.R_lt (by (with_reducible repeat (first | apply Kd.R_alloc | apply Kd.R_drewN | apply Kd.R_drew)); exact HO663.out)) k_ hk, Kd.fresh' (Kd.R_lt (by (with_reducible repeat (first | apply Kd.R_alloc | apply Kd.R_drewN | apply Kd.R_drew)); exact HO677.out)) k_ hk⟩)); (case aO => exact (by (with_reducible repeat (first | apply Kd.R_alloc | apply Kd.R_drewN | apply Kd.R_drew)); exact HO_9.out)); (case aS => exact (below_size (by repeat (first | (with_reducible first | exact HB.out | apply below_alloc | apply pw_below_drewN | apply below_drew1 | refine below_set ?_ GE640.out | refine below_set ?_ GE641.out) | exact HB.out)))); (case aL => have := LMc67.out; omega); intro v679 w75 ho hb hg hat; rw [← Ny678.out] at ho; have n0_ := Aside0.mk (blk_grown (g := gb640) (o := .cells #[.slice A0_0 l0_0.length c0_0, .slice A0_1 l0_1.length c0_1, .int .i64 a0_2, .bool a0_3] 25 (0, 0)) (by (with_reducible repeat (first | refine blk_drewN ?_ _ | refine blk_drew ?_ | refine blk_alloc ?_ _)); exact BK640.out) hg (Kd.R_ne HO_9.out BK640.out (by decide))); have n1_ := Aside0.mk (blk_grown (g := gb641) (o := .cells #[.bool x642000_3, .slice none 0 0, .int .i64 x642002_3] 49 (0, 0)) (by (with_reducible repeat (first | refine blk_drewN ?_ _ | refine blk_drew ?_ | refine blk_alloc ?_ _)); exact BK641.out) hg (Kd.R_ne HO_9.out BK641.out (by decide))); have n2_ := Aside0.mk (Kd.R_after (ok := (fun k_ => some k_ ≠ (v676 : Value).ownBlock)) (by (with_reducible repeat (first | apply Kd.R_alloc | apply Kd.R_drewN | apply Kd.R_drew)); exact Kd.R_mono HO663.out (fun _ hk => ⟨hk.2, hk.1⟩)) hg hat); have n3_ := Aside0.mk (Kd.V_afterv (ok := (fun k_ => some k_ ≠ (v676 : Value).ownBlock ∧ k_ ≠ gb640 ∧ k_ ≠ gb641)) (by (with_reducible repeat (first | apply Kd.V_alloc | apply Kd.V_drewN | apply Kd.V_drew)); exact Kd.V_mono HO668.out (fun _ hk => ⟨⟨hk.2, ⟨hk.1.2.1, hk.1.2.2⟩⟩, hk.1.1⟩)) hg hat); have n4_ := Aside0.mk (Kd.V_afterv (ok := (fun k_ => some k_ ≠ (v676 : Value).ownBlock ∧ k_ ≠ gb640 ∧ k_ ≠ gb641)) (by (with_reducible repeat (first | apply Kd.V_alloc | apply Kd.V_drewN | apply Kd.V_drew)); exact Kd.V_mono HO674.out (fun _ hk => ⟨⟨hk.2, ⟨hk.1.2.1, hk.1.2.2⟩⟩, hk.1.1⟩)) hg hat); have n5_ := Aside0.mk (Kd.R_after (ok := (fun k_ => some k_ ≠ (.slice Ao72 t661.length co72 : Value).ownBlock)) (by (with_reducible repeat (first | apply Kd.R_alloc | apply Kd.R_drewN | apply Kd.R_drew)); exact Kd.R_mono HO677.out (fun _ hk => ⟨hk.2, hk.1⟩)) hg hat); have n6_ := Aside0.mk (hb); have n7_ := Aside0.mk (ho); clear BK640; clear BK641; clear HO663; clear HO668; clear HO674; clear HO677; clear HB; clear HO_9; have BK640 := n0_; have BK641 := n1_; have HO663 := n2_; have HO668 := n3_; have HO674 := n4_; have HO677 := n5_; have HB := n6_; have HO680 := n7_; clear n0_ n1_ n2_ n3_ n4_ n5_ n6_ n7_; clear ho hb hg hat))
                            go_roundg k3
                            case measure => have := HJ3.out; have := HJ33.out; have := HK3.out; omega
                            case rel => exact ⟨(y675), (y678), (wrap64 (x10_3 + 1)), (x642000_3), (x642002_3), (by first | rfl | (simp; done) | (simp [*]; done)), H', ⟨by have := HJ3.out; have := HJ33.out; have := HK3.out; omega⟩, ⟨by (with_reducible repeat (first | apply Kd.R_alloc | apply Kd.R_drewN | apply Kd.R_drew)); exact Kd.R_mono HO677.out (fun _ hk => hk.2)⟩, ⟨by (with_reducible repeat (first | apply Kd.R_alloc | apply Kd.R_drewN | apply Kd.R_drew)); exact Kd.R_mono HO680.out (fun _ hk => hk.2)⟩, ⟨by (with_reducible repeat (first | refine blk_drewN ?_ _ | refine blk_drew ?_ | refine blk_alloc ?_ _)); exact BK640.out⟩, ⟨by (with_reducible repeat (first | refine blk_drewN ?_ _ | refine blk_drew ?_ | refine blk_alloc ?_ _)); exact BK641.out⟩, ⟨by repeat (first | (with_reducible first | exact HB.out | apply below_alloc | apply pw_below_drewN | apply below_drew1 | refine below_set ?_ GE640.out | refine below_set ?_ GE641.out) | exact HB.out)⟩⟩
                           ·rw [if_neg c67] at H
                            exact absurd H (by simp)
                          ·rw [if_neg c66] at H
                           exact absurd H (by simp)
                         ·rw [if_neg c65] at H
                          exact absurd H (by simp)
                        ·rw [if_neg c64] at H
                         exact absurd H (by simp)
                    · rw [if_neg c55] at H
                      exact absurd H (by simp)
                   ·rw [if_neg c54] at H
                    exact absurd H (by simp)
                  ·rw [if_neg c52] at H
                   have c52b0 : decide (x10_3 < t653) = false := decide_eq_false c52
                   clear c52
                   by_cases c76 : (x8_3.length : Int) > 30000
                   ·rw [if_pos c76] at H
                    have c76b0 : decide (30000 < (x8_3.length : Int)) = true := decide_eq_true c76
                    have c76b1 : decide (30000 < x8_3.length) = true := decide_eq_true (by omega)
                    clear c76
                    simp only [Option.some.injEq, Prod.mk.injEq] at H
                    obtain ⟨rfl, rfl, rfl⟩ := H
                    try go_wp2
                    have n0_ := Aside0.mk (Kd.R_drew HO_8.out)
                    have n1_ := Aside0.mk (Kd.R_drew HO_9.out)
                    have n2_ := Aside0.mk (blk_drew BK640.out)
                    have n3_ := Aside0.mk (blk_drew BK641.out)
                    have n4_ := Aside0.mk (below_drew1 HB.out)
                    clear HO_8
                    clear HO_9
                    clear BK640
                    clear BK641
                    clear HB
                    have HO_8 := n0_
                    have HO_9 := n1_
                    have BK640 := n2_
                    have BK641 := n3_
                    have HB := n4_
                    clear n0_ n1_ n2_ n3_ n4_
                    obtain ⟨Ao78, co78, eo78⟩ := Kd.R_slice HO_8.out
                    (first | subst eo78 | (injection eo78 with f1_ f2_ f3_; have f4_ := f1_.symm; have f5_ := f3_.symm; clear f1_ f2_ f3_; subst f4_; subst f5_))
                    refine start_ (n := 13) (S := fun w' => True) (ds := []) #[false, false, false, false, false, false, false, false, false, false, false, false, false] (by kernel_rfl) rfl rfl trivial (fun hHeld => ?_); refine with_tabW spec_ReadRec.gtab17 spec_ReadRec.gbits17 (fun HT_ HW_ => ?_)
                    generalize wr.drew = w77 at HO_8 HO_9 BK640 BK641 HB hHeld ⊢
                    refine pure_ (i := 0) (N := some 75) (v := ?_) (a' := ?_) #[true, false, false, false, false, false, false, false, false, false, false, false, false] rfl rfl (any_of HT_.out (by kernel_rfl)) (fun _ _ _ h => h) (Or.inl ⟨by rfl, ?_⟩) ?_ ?_
                    rotate_left
                    · intro w'
                      go_simp
                      with_reducible rfl
                    rotate_left
                    · simp only [Act.put, List.setIfInBounds_toArray, List.set_cons_zero, List.set_cons_succ, i64_w, i32_w]
                      rfl
                    refine pure_ (i := 1) (N := some 76) (v := ?_) (a' := ?_) #[true, true, false, false, false, false, false, false, false, false, false, false, false] rfl rfl (any_of HT_.out (by kernel_rfl)) (fun _ _ _ h => h) (Or.inl ⟨by rfl, ?_⟩) ?_ ?_
                    rotate_left
                    · intro w'
                      go_simp
                      with_reducible rfl
                    rotate_left
                    · simp only [Act.put, List.setIfInBounds_toArray, List.set_cons_zero, List.set_cons_succ, i64_w, i32_w]
                      rfl
                    refine pure_ (i := 2) (N := some 77) (v := ?_) (a' := ?_) #[true, true, true, false, false, false, false, false, false, false, false, false, false] rfl rfl (any_of HT_.out (by kernel_rfl)) (fun _ _ _ h => h) (Or.inl ⟨by rfl, ?_⟩) ?_ ?_
                    rotate_left
                    · intro w'
                      go_simp
                      with_reducible rfl
                    rotate_left
                    · simp only [Act.put, List.setIfInBounds_toArray, List.set_cons_zero, List.set_cons_succ, i64_w, i32_w]
                      rfl
                    refine pure_ (i := 3) (N := some 78) (v := ?_) (a' := ?_) #[true, true, true, true, false, false, false, false, false, false, false, false, false] rfl rfl (any_of HT_.out (by kernel_rfl)) (fun _ _ _ h => h) (Or.inl ⟨by rfl, ?_⟩) ?_ ?_
                    rotate_left
                    · intro w'
                      go_simp
                      with_reducible rfl
                    rotate_left
                    · simp only [Act.put, List.setIfInBounds_toArray, List.set_cons_zero, List.set_cons_succ, i64_w, i32_w]
                      rfl
                    refine pure_ (i := 4) (N := some 79) (v := undef) (a' := ?_) #[true, true, true, true, true, false, false, false, false, false, false, false, false] rfl rfl (any_of HT_.out (by kernel_rfl)) (fun _ _ _ h => h) (Or.inr ⟨by rfl, rfl⟩) ?_ ?_
                    rotate_left
                    · simp only [Act.put, List.setIfInBounds_toArray, List.set_cons_zero, List.set_cons_succ, i64_w, i32_w]
                      rfl
                    refine pure_ (i := 5) (N := some 80) (v := undef) (a' := ?_) #[true, true, true, true, true, true, false, false, false, false, false, false, false] rfl rfl (any_of HT_.out (by kernel_rfl)) (fun _ _ _ h => h) (Or.inr ⟨by rfl, rfl⟩) ?_ ?_
                    rotate_left
                    · simp only [Act.put, List.setIfInBounds_toArray, List.set_cons_zero, List.set_cons_succ, i64_w, i32_w]
                      rfl
                    refine pure_ (i := 6) (N := some 81) (v := undef) (a' := ?_) #[true, true, true, true, true, true, true, false, false, false, false, false, false] rfl rfl (any_of HT_.out (by kernel_rfl)) (fun _ _ _ h => h) (Or.inr ⟨by rfl, rfl⟩) ?_ ?_
                    rotate_left
                    · simp only [Act.put, List.setIfInBounds_toArray, List.set_cons_zero, List.set_cons_succ, i64_w, i32_w]
                      rfl
                    refine pure_ (i := 7) (N := some 82) (v := undef) (a' := ?_) #[true, true, true, true, true, true, true, true, false, false, false, false, false] rfl rfl (any_of HT_.out (by kernel_rfl)) (fun _ _ _ h => h) (Or.inr ⟨by rfl, rfl⟩) ?_ ?_
                    rotate_left
                    · simp only [Act.put, List.setIfInBounds_toArray, List.set_cons_zero, List.set_cons_succ, i64_w, i32_w]
                      rfl
                    refine pure_ (i := 8) (N := some 83) (v := undef) (a' := ?_) #[true, true, true, true, true, true, true, true, true, false, false, false, false] rfl rfl (any_of HT_.out (by kernel_rfl)) (fun _ _ _ h => h) (Or.inr ⟨by rfl, rfl⟩) ?_ ?_
                    rotate_left
                    · simp only [Act.put, List.setIfInBounds_toArray, List.set_cons_zero, List.set_cons_succ, i64_w, i32_w]
                      rfl
                    refine pure_ (i := 9) (N := some 84) (v := undef) (a' := ?_) #[true, true, true, true, true, true, true, true, true, true, false, false, false] rfl rfl (any_of HT_.out (by kernel_rfl)) (fun _ _ _ h => h) (Or.inr ⟨by rfl, rfl⟩) ?_ ?_
                    rotate_left
                    · simp only [Act.put, List.setIfInBounds_toArray, List.set_cons_zero, List.set_cons_succ, i64_w, i32_w]
                      rfl
                    refine pure_ (i := 10) (N := some 85) (v := undef) (a' := ?_) #[true, true, true, true, true, true, true, true, true, true, true, false, false] rfl rfl (any_of HT_.out (by kernel_rfl)) (fun _ _ _ h => h) (Or.inr ⟨by rfl, rfl⟩) ?_ ?_
                    rotate_left
                    · simp only [Act.put, List.setIfInBounds_toArray, List.set_cons_zero, List.set_cons_succ, i64_w, i32_w]
                      rfl
                    refine pure_ (i := 11) (N := some 86) (v := undef) (a' := ?_) #[true, true, true, true, true, true, true, true, true, true, true, true, false] rfl rfl (any_of HT_.out (by kernel_rfl)) (fun _ _ _ h => h) (Or.inr ⟨by rfl, rfl⟩) ?_ ?_
                    rotate_left
                    · simp only [Act.put, List.setIfInBounds_toArray, List.set_cons_zero, List.set_cons_succ, i64_w, i32_w]
                      rfl
                    refine pure_ (i := 12) (N := some 87) (v := ?_) (a' := ?_) #[true, true, true, true, true, true, true, true, true, true, true, true, true] rfl rfl (any_of HT_.out (by kernel_rfl)) (fun _ _ _ h => h) (Or.inl ⟨by rfl, ?_⟩) ?_ ?_
                    rotate_left
                    · intro w'
                      go_simp
                      with_reducible rfl
                    rotate_left
                    · simp only [Act.put, List.setIfInBounds_toArray, List.set_cons_zero, List.set_cons_succ, i64_w, i32_w]
                      rfl
                    refine done_ (done_of HT_.out (by kernel_rfl)) ?_
                    have hnb79 := NB641_640.out
                    have hnc79 := NB640_641.out
                    have hcz80_0 : w77.cell? ⟨gb641, 0, none⟩ = some (.bool x642000_3) := (blk_cell BK641.out 0).trans rfl
                    have hcz80_1 : w77.cell? ⟨gb641, 1, none⟩ = some (.slice none 0 0) := (blk_cell BK641.out 1).trans rfl
                    have hcz80_2 : w77.cell? ⟨gb641, 2, none⟩ = some (.int .i64 x642002_3) := (blk_cell BK641.out 2).trans rfl
                    have hfz80_0 := blk_frozen BK641.out 0
                    have hfz80_1 := blk_frozen BK641.out 1
                    have hfz80_2 := blk_frozen BK641.out 2
                    try go_wp2
                    refine bodyPost_ret (results_cell_row rfl _ _ gb641 49 #[.bool false, .slice none 0 0, .int .i64 0] (0, 0) _ rfl (by (with_reducible repeat (first | refine blk_drewN ?_ _ | refine blk_drew ?_ | refine blk_alloc ?_ _)); refine blk_put (cs := #[.bool false, .slice none 0 0, .int .i64 x642002_3]) ?_ 2 _ rfl; (with_reducible repeat (first | refine blk_drewN ?_ _ | refine blk_drew ?_ | refine blk_alloc ?_ _)); refine blk_put (cs := #[.bool false, .slice none 0 0, .int .i64 x642002_3]) ?_ 1 _ rfl; (with_reducible repeat (first | refine blk_drewN ?_ _ | refine blk_drew ?_ | refine blk_alloc ?_ _)); refine blk_put (cs := #[.bool x642000_3, .slice none 0 0, .int .i64 x642002_3]) ?_ 0 _ rfl; (with_reducible repeat (first | refine blk_drewN ?_ _ | refine blk_drew ?_ | refine blk_alloc ?_ _)); exact BK641.out) Try.underlying49 rfl (by kernel_rfl)) rfl ?_
                    exact ⟨_, by first | rfl | (simp [errW_none, errW_some] <;> rfl) | (simp [*, errW_none, errW_some] <;> rfl), by first | exact Kd.R_nil _ _ _ _ _ | exact Kd.N_nil _ _ _ _ _ | exact Kd.V_nil _ _ _ _ _ | exact Kd.Q_nil _ _ _ _ _ | exact Kd.S_nil _ _ _ _ _, by repeat (first | (with_reducible first | exact HB.out | apply below_alloc | apply pw_below_drewN | apply below_drew1 | refine below_set ?_ GE640.out | refine below_set ?_ GE641.out) | exact HB.out)⟩
                   ·rw [if_neg c76] at H
                    have c76b0 : decide (30000 < (x8_3.length : Int)) = false := decide_eq_false c76
                    have c76b1 : decide (30000 < x8_3.length) = false := decide_eq_false (by omega)
                    clear c76
                    replace H := Option.bind_eq_some_iff.mp H
                    obtain ⟨t681, A810, H⟩ := H
                    replace H : ((spec_l2Cat.f k3 t681).bind fun t684 => (if (strOfNums t684).toList = (strOfNums x9_3).toList then (some (true, x8_3, t653)) else (some (false, ([] : List Int), 0)))) = some (r1, r2, r3) := H
                    have A81 := Aside0.mk A810
                    clear A810
                    replace H := Option.bind_eq_some_iff.mp H
                    obtain ⟨t684, A820, H⟩ := H
                    replace H : (if (strOfNums t684).toList = (strOfNums x9_3).toList then (some (true, x8_3, t653)) else (some (false, ([] : List Int), 0))) = some (r1, r2, r3) := H
                    have A82 := Aside0.mk A820
                    clear A820
                    by_cases c83 : (strOfNums t684).toList = (strOfNums x9_3).toList
                    · rw [if_pos c83] at H
                      have c83b0 : ((strOfNums t684).toList == (strOfNums x9_3).toList) = true := beq_iff_eq.mpr c83
                      have c83b1 : ((strOfNums t684).toList != (strOfNums x9_3).toList) = false := bne_eq_false_iff_eq.mpr c83
                      clear c83
                      simp only [Option.some.injEq, Prod.mk.injEq] at H
                      obtain ⟨rfl, rfl, rfl⟩ := H
                      obtain ⟨Ao84, co84, eo84⟩ := Kd.R_slice HO_8.out
                      subst eo84
                      try go_wp2
                      have n0_ := Aside0.mk (Kd.R_drew HO_8.out)
                      have n1_ := Aside0.mk (Kd.R_drew HO_9.out)
                      have n2_ := Aside0.mk (blk_drew BK640.out)
                      have n3_ := Aside0.mk (blk_drew BK641.out)
                      have n4_ := Aside0.mk (below_drew1 HB.out)
                      clear HO_8
                      clear HO_9
                      clear BK640
                      clear BK641
                      clear HB
                      have HO_8 := n0_
                      have HO_9 := n1_
                      have BK640 := n2_
                      have BK641 := n3_
                      have HB := n4_
                      clear n0_ n1_ n2_ n3_ n4_
                      obtain ⟨AoX_, coX_, eoX_⟩ := Kd.R_slice HO_9.out
                      subst eoX_
                      refine start_ (n := 13) (S := fun w' => Kd.R (Kd.int .u8) 5 w' w.heap.size (fun _ => True) (.slice AoX_ x9_3.length coX_) x9_3) (ds := []) #[false, false, false, false, false, false, false, false, false, false, false, false, false] (by kernel_rfl) rfl rfl (Kd.R_mono HO_9.out (fun _ _ => trivial)) (fun hHeld => ?_); refine with_tabW spec_ReadRec.gtab17 spec_ReadRec.gbits17 (fun HT_ HW_ => ?_)
                      generalize wr.drew = w85 at HO_8 HO_9 BK640 BK641 HB hHeld ⊢
                      refine pure_ (i := 0) (N := some 75) (v := ?_) (a' := ?_) #[true, false, false, false, false, false, false, false, false, false, false, false, false] rfl rfl (any_of HT_.out (by kernel_rfl)) (fun _ _ _ h => h) (Or.inl ⟨by rfl, ?_⟩) ?_ ?_
                      rotate_left
                      · intro w'
                        go_simp
                        with_reducible rfl
                      rotate_left
                      · simp only [Act.put, List.setIfInBounds_toArray, List.set_cons_zero, List.set_cons_succ, i64_w, i32_w]
                        rfl
                      refine pure_ (i := 1) (N := some 76) (v := ?_) (a' := ?_) #[true, true, false, false, false, false, false, false, false, false, false, false, false] rfl rfl (any_of HT_.out (by kernel_rfl)) (fun _ _ _ h => h) (Or.inl ⟨by rfl, ?_⟩) ?_ ?_
                      rotate_left
                      · intro w'
                        go_simp
                        with_reducible rfl
                      rotate_left
                      · simp only [Act.put, List.setIfInBounds_toArray, List.set_cons_zero, List.set_cons_succ, i64_w, i32_w]
                        rfl
                      refine pure_ (i := 2) (N := some 77) (v := ?_) (a' := ?_) #[true, true, true, false, false, false, false, false, false, false, false, false, false] rfl rfl (any_of HT_.out (by kernel_rfl)) (fun _ _ _ h => h) (Or.inl ⟨by rfl, ?_⟩) ?_ ?_
                      rotate_left
                      · intro w'
                        go_simp
                        with_reducible rfl
                      rotate_left
                      · simp only [Act.put, List.setIfInBounds_toArray, List.set_cons_zero, List.set_cons_succ, i64_w, i32_w]
                        rfl
                      refine pure_ (i := 3) (N := some 78) (v := ?_) (a' := ?_) #[true, true, true, true, false, false, false, false, false, false, false, false, false] rfl rfl (any_of HT_.out (by kernel_rfl)) (fun _ _ _ h => h) (Or.inl ⟨by rfl, ?_⟩) ?_ ?_
                      rotate_left
                      · intro w'
                        go_simp
                        with_reducible rfl
                      rotate_left
                      · simp only [Act.put, List.setIfInBounds_toArray, List.set_cons_zero, List.set_cons_succ, i64_w, i32_w]
                        rfl
                      refine pure_ (i := 4) (N := some 79) (v := ?_) (a' := ?_) #[true, true, true, true, true, false, false, false, false, false, false, false, false] rfl rfl (any_of HT_.out (by kernel_rfl)) (fun _ _ _ h => h) (Or.inl ⟨by rfl, ?_⟩) ?_ ?_
                      rotate_left
                      · intro w'
                        go_simp
                        with_reducible rfl
                      rotate_left
                      · simp only [Act.put, List.setIfInBounds_toArray, List.set_cons_zero, List.set_cons_succ, i64_w, i32_w]
                        rfl
                      refine pure_ (i := 5) (N := some 80) (v := ?_) (a' := ?_) #[true, true, true, true, true, true, false, false, false, false, false, false, false] rfl rfl (any_of HT_.out (by kernel_rfl)) (fun _ _ _ h => h) (Or.inl ⟨by rfl, ?_⟩) ?_ ?_
                      rotate_left
                      · intro w'
                        go_simp
                        with_reducible rfl
                      rotate_left
                      · simp only [Act.put, List.setIfInBounds_toArray, List.set_cons_zero, List.set_cons_succ, i64_w, i32_w]
                        rfl
                      refine pure_ (i := 9) (N := some 84) (v := ?_) (a' := ?_) #[true, true, true, true, true, true, false, false, false, true, false, false, false] rfl rfl (any_of HT_.out (by kernel_rfl)) (fun _ _ _ h => h) (Or.inl ⟨by rfl, ?_⟩) ?_ ?_
                      rotate_left
                      · intro w'
                        go_simp
                        with_reducible rfl
                      rotate_left
                      · simp only [Act.put, List.setIfInBounds_toArray, List.set_cons_zero, List.set_cons_succ, i64_w, i32_w]
                        rfl
                      refine take_ (i := 10) (N := some 85) (v := ?_) (a' := ?_) #[true, true, true, true, true, true, false, false, false, true, true, false, false] rfl rfl (take_ofW HT_.out HW_.out (by kernel_rfl)) (fun _ _ _ h => h) (Or.inl ⟨by rfl, ?_⟩) hHeld ?_ ?_
                      rotate_left
                      · rintro w' s0
                        have hcvs_ := own_string (P := Try.prog) Try.underlying22 Try.underlying5 Try.underlying9 (Kd.own_of_R s0)
                        go_simp
                        first | with_reducible rfl | rfl
                      rotate_left
                      · simp only [Act.put, List.setIfInBounds_toArray, List.set_cons_zero, List.set_cons_succ, i64_w, i32_w]
                        rfl
                      refine one_ (i := 6) (N := some 81) #[true, true, true, true, true, true, true, false, false, true, true, false, false] rfl rfl (one_of HT_.out (by kernel_rfl)) (by decide) (fun K hK => ?_)
                      refine goes_ Try.func69 (by kernel_rfl) rfl #[.int .i64 a2, .slice Ao84 x8_3.length co84] (by rfl) rfl rfl (by (try simp only [List.map_toArray, List.map_cons, List.map_nil]); first | done | rfl | (simp only [List.length_drop, List.length_take]; rfl)) ?_
                      with_reducible refine (spec_l2Sectors.calls k3 a2 (fun k_ => some k_ = (.slice Ao84 x8_3.length co84 : Value).ownBlock) _ _ x8_3 t681 _ ?side1 A81.out).mono ?_
                      (case side1 => exact Kd.R_V (Kd.R_tight rfl (Kd.R_types (Kd.R_types (HO_8.out) BK640.out (by decide)) BK641.out (by decide))))
                      rintro e w86 ⟨v682, rfl, ho0, hb⟩
                      refine ⟨_, rfl, ?_⟩
                      have n0_ := Aside0.mk (Kd.R_below (by (with_reducible repeat (first | apply Kd.R_alloc | apply Kd.R_drewN | apply Kd.R_drew)); exact HO_8.out) hb)
                      have n1_ := Aside0.mk (Kd.R_below (by (with_reducible repeat (first | apply Kd.R_alloc | apply Kd.R_drewN | apply Kd.R_drew)); exact HO_9.out) hb)
                      have n2_ := Aside0.mk (Kd.N_lower (Kd.N_mono (ok' := fun k_ => some k_ ≠ ((.slice AoX_ x9_3.length coX_) : Value).ownBlock ∧ k_ ≠ gb640 ∧ k_ ≠ gb641) ho0 (fun k_ hk_ => ⟨Or.elim hk_ (fun hs_ => ((Kd.R_types (Kd.R_types (HO_8.out) BK640.out (by decide)) BK641.out (by decide)).1 k_ hs_.symm).1.1) (fun hn_ => (Kd.fresh' (Kd.R_lt (by (with_reducible repeat (first | apply Kd.R_alloc | apply Kd.R_drewN | apply Kd.R_drew)); exact HO_9.out)) k_ hn_)), Or.elim hk_ (fun hs_ => ((Kd.R_types (Kd.R_types (HO_8.out) BK640.out (by decide)) BK641.out (by decide)).1 k_ hs_.symm).1.2) (fun hn_ => (Kd.freshB (g := gb640) (o := .cells #[.slice A0_0 l0_0.length c0_0, .slice A0_1 l0_1.length c0_1, .int .i64 a0_2, .bool a0_3] 25 (0, 0)) (by (with_reducible repeat (first | refine blk_drewN ?_ _ | refine blk_drew ?_ | refine blk_alloc ?_ _)); exact BK640.out) k_ hn_)), Or.elim hk_ (fun hs_ => ((Kd.R_types (Kd.R_types (HO_8.out) BK640.out (by decide)) BK641.out (by decide)).1 k_ hs_.symm).2) (fun hn_ => (Kd.freshB (g := gb641) (o := .cells #[.bool x642000_3, .slice none 0 0, .int .i64 x642002_3] 49 (0, 0)) (by (with_reducible repeat (first | refine blk_drewN ?_ _ | refine blk_drew ?_ | refine blk_alloc ?_ _)); exact BK641.out) k_ hn_))⟩)) (below_size (by repeat (first | (with_reducible first | exact HB.out | apply below_alloc | apply pw_below_drewN | apply below_drew1 | refine below_set ?_ GE640.out | refine below_set ?_ GE641.out) | exact HB.out))))
                      have n3_ := Aside0.mk (blk_below (g := gb640) (o := .cells #[.slice A0_0 l0_0.length c0_0, .slice A0_1 l0_1.length c0_1, .int .i64 a0_2, .bool a0_3] 25 (0, 0)) (by (with_reducible repeat (first | refine blk_drewN ?_ _ | refine blk_drew ?_ | refine blk_alloc ?_ _)); exact BK640.out) hb)
                      have n4_ := Aside0.mk (blk_below (g := gb641) (o := .cells #[.bool x642000_3, .slice none 0 0, .int .i64 x642002_3] 49 (0, 0)) (by (with_reducible repeat (first | refine blk_drewN ?_ _ | refine blk_drew ?_ | refine blk_alloc ?_ _)); exact BK641.out) hb)
                      have n5_ := Aside0.mk (below_step (by repeat (first | (with_reducible first | exact HB.out | apply below_alloc | apply pw_below_drewN | apply below_drew1 | refine below_set ?_ GE640.out | refine below_set ?_ GE641.out) | exact HB.out)) hb)
                      clear HO_8
                      clear HO_9
                      clear BK640
                      clear BK641
                      clear HB
                      have HO_8 := n0_
                      have HO_9 := n1_
                      have HO683 := n2_
                      have BK640 := n3_
                      have BK641 := n4_
                      have HB := n5_
                      clear n0_ n1_ n2_ n3_ n4_ n5_
                      (try clear hb)
                      (try clear hb2)
                      (try clear hk)
                      (try clear hi)
                      (try clear ho0)
                      obtain ⟨Ao87, co87, eo87⟩ := Kd.N_slice HO683.out
                      (first | subst eo87 | (injection eo87 with f1_ f2_ f3_; have f4_ := f1_.symm; have f5_ := f3_.symm; clear f1_ f2_ f3_; subst f4_; subst f5_))
                      refine hK.out _ _ (Kd.R_mono HO_9.out (fun _ _ => trivial)) (fun hHeld => ?_)
                      clear hK K
                      refine norm_ (a' := ?_) ?_ ?_
                      rotate_left
                      · show Act.put _ (some 81) _ = _
                        simp only [Act.put, List.setIfInBounds_toArray, List.set_cons_zero, List.set_cons_succ, i64_w, i32_w]
                        rfl
                      refine one_ (i := 7) (N := some 82) #[true, true, true, true, true, true, true, true, false, true, true, false, false] rfl rfl (one_of HT_.out (by kernel_rfl)) (by decide) (fun K hK => ?_)
                      refine goes_ Try.func68 (by kernel_rfl) rfl #[.slice Ao87 t681.length co87] (by rfl) rfl rfl (by (try simp only [List.map_toArray, List.map_cons, List.map_nil]); first | done | rfl | (simp only [List.length_drop, List.length_take]; rfl)) ?_
                      with_reducible refine (spec_l2Cat.calls k3 _ _ t681 t684 _ ?side1 ?side2 A82.out).mono ?_
                      (case side1 => repeat (first | exact (Kd.N_reads' HO683.out).2.2 | (with_reducible refine Kd.C_alloc ?_ _) | (with_reducible refine Kd.C_drewN ?_ _) | (with_reducible refine Kd.C_drew ?_)))
                      (case side2 => exact (Kd.N_reads' HO683.out).2.1)
                      rintro e w88 ⟨v685, rfl, ho0, hb⟩
                      refine ⟨_, rfl, ?_⟩
                      have n0_ := Aside0.mk (Kd.R_elder' (by (with_reducible repeat (first | apply Kd.R_alloc | apply Kd.R_drewN | apply Kd.R_drew)); exact HO_8.out) (Kd.R_base ho0) hb)
                      have n1_ := Aside0.mk (Kd.R_elder' (by (with_reducible repeat (first | apply Kd.R_alloc | apply Kd.R_drewN | apply Kd.R_drew)); exact HO_9.out) (Kd.R_base ho0) hb)
                      have n2_ := Aside0.mk (Kd.N_elder' (by (with_reducible repeat (first | apply Kd.N_alloc | apply Kd.N_drewN | apply Kd.N_drew)); exact HO683.out) (Kd.R_base ho0) hb)
                      have n3_ := Aside0.mk (Kd.R_lower (Kd.R_new' (Kd.R_new' ho0 (Kd.R_lt (by (with_reducible repeat (first | apply Kd.R_alloc | apply Kd.R_drewN | apply Kd.R_drew)); exact HO_8.out))) (Kd.R_lt (by (with_reducible repeat (first | apply Kd.R_alloc | apply Kd.R_drewN | apply Kd.R_drew)); exact HO_9.out))) (below_size (by repeat (first | (with_reducible first | exact HB.out | apply below_alloc | apply pw_below_drewN | apply below_drew1 | refine below_set ?_ GE640.out | refine below_set ?_ GE641.out) | exact HB.out))))
                      have n4_ := Aside0.mk (blk_below (g := gb640) (o := .cells #[.slice A0_0 l0_0.length c0_0, .slice A0_1 l0_1.length c0_1, .int .i64 a0_2, .bool a0_3] 25 (0, 0)) (by (with_reducible repeat (first | refine blk_drewN ?_ _ | refine blk_drew ?_ | refine blk_alloc ?_ _)); exact BK640.out) hb)
                      have n5_ := Aside0.mk (blk_below (g := gb641) (o := .cells #[.bool x642000_3, .slice none 0 0, .int .i64 x642002_3] 49 (0, 0)) (by (with_reducible repeat (first | refine blk_drewN ?_ _ | refine blk_drew ?_ | refine blk_alloc ?_ _)); exact BK641.out) hb)
                      have n6_ := Aside0.mk (below_step (by repeat (first | (with_reducible first | exact HB.out | apply below_alloc | apply pw_below_drewN | apply below_drew1 | refine below_set ?_ GE640.out | refine below_set ?_ GE641.out) | exact HB.out)) hb)
                      clear HO_8
                      clear HO_9
                      clear HO683
                      clear BK640
                      clear BK641
                      clear HB
                      have HO_8 := n0_
                      have HO_9 := n1_
                      have HO683 := n2_
                      have HO686 := n3_
                      have BK640 := n4_
                      have BK641 := n5_
                      have HB := n6_
                      clear n0_ n1_ n2_ n3_ n4_ n5_ n6_
                      (try clear hb)
                      (try clear hb2)
                      (try clear hk)
                      (try clear hi)
                      (try clear ho0)
                      have hcv90 := own_string (P := Try.prog) Try.underlying22 Try.underlying5 Try.underlying9 (Kd.own_of_R HO_9.out)
                      refine hK.out _ _ (Kd.R_mono HO_9.out (fun _ _ => trivial)) (fun hHeld => ?_)
                      clear hK K
                      refine norm_ (a' := ?_) ?_ ?_
                      rotate_left
                      · show Act.put _ (some 82) _ = _
                        simp only [Act.put, List.setIfInBounds_toArray, List.set_cons_zero, List.set_cons_succ, i64_w, i32_w]
                        rfl
                      refine one_ (i := 8) (N := some 83) #[true, true, true, true, true, true, true, true, true, true, true, false, false] rfl rfl (one_of HT_.out (by kernel_rfl)) (by decide) (fun K hK => ?_)
                      have hcv89 := own_string (P := Try.prog) Try.underlying22 Try.underlying5 Try.underlying9 (Kd.own_of_R HO686.out)
                      refine value_ (w1 := ?_) (v := ?_) (by rfl) rfl ?_ ?_
                      rotate_left 2
                      · go_simp
                        constructor
                        ·rfl
                        ·rfl
                      clear hcv89
                      refine hK.out _ _ (Kd.R_mono HO_9.out (fun _ _ => trivial)) (fun hHeld => ?_)
                      clear hK K
                      refine norm_ (a' := ?_) ?_ ?_
                      rotate_left
                      · show Act.put _ (some 83) _ = _
                        simp only [Act.put, List.setIfInBounds_toArray, List.set_cons_zero, List.set_cons_succ, i64_w, i32_w]
                        rfl
                      refine pure_ (i := 11) (N := some 86) (v := ?_) (a' := ?_) #[true, true, true, true, true, true, true, true, true, true, true, true, false] rfl rfl (any_of HT_.out (by kernel_rfl)) (fun _ _ _ h => h) (Or.inl ⟨by rfl, ?_⟩) ?_ ?_
                      rotate_left
                      · intro w'
                        go_simp
                        with_reducible rfl
                      rotate_left
                      · simp only [Act.put, List.setIfInBounds_toArray, List.set_cons_zero, List.set_cons_succ, i64_w, i32_w]
                        rfl
                      refine pure_ (i := 12) (N := some 87) (v := ?_) (a' := ?_) #[true, true, true, true, true, true, true, true, true, true, true, true, true] rfl rfl (any_of HT_.out (by kernel_rfl)) (fun _ _ _ h => h) (Or.inl ⟨by rfl, ?_⟩) ?_ ?_
                      rotate_left
                      · intro w'
                        go_simp
                        with_reducible rfl
                      rotate_left
                      · simp only [Act.put, List.setIfInBounds_toArray, List.set_cons_zero, List.set_cons_succ, i64_w, i32_w]
                        rfl
                      refine done_ (done_of HT_.out (by kernel_rfl)) ?_
                      have hnb92 := NB641_640.out
                      have hnc92 := NB640_641.out
                      have hcz93_0 : w88.cell? ⟨gb641, 0, none⟩ = some (.bool x642000_3) := (blk_cell BK641.out 0).trans rfl
                      have hcz93_1 : w88.cell? ⟨gb641, 1, none⟩ = some (.slice none 0 0) := (blk_cell BK641.out 1).trans rfl
                      have hcz93_2 : w88.cell? ⟨gb641, 2, none⟩ = some (.int .i64 x642002_3) := (blk_cell BK641.out 2).trans rfl
                      have hfz93_0 := blk_frozen BK641.out 0
                      have hfz93_1 := blk_frozen BK641.out 1
                      have hfz93_2 := blk_frozen BK641.out 2
                      try go_wp2
                      refine bodyPost_ret (results_cell_row rfl _ _ gb641 49 #[.bool true, .slice Ao84 x8_3.length co84, .int .i64 t653] (0, 0) _ rfl (by (with_reducible repeat (first | refine blk_drewN ?_ _ | refine blk_drew ?_ | refine blk_alloc ?_ _)); refine blk_put (cs := #[.bool true, .slice Ao84 x8_3.length co84, .int .i64 x642002_3]) ?_ 2 _ rfl; (with_reducible repeat (first | refine blk_drewN ?_ _ | refine blk_drew ?_ | refine blk_alloc ?_ _)); refine blk_put (cs := #[.bool true, .slice none 0 0, .int .i64 x642002_3]) ?_ 1 _ rfl; (with_reducible repeat (first | refine blk_drewN ?_ _ | refine blk_drew ?_ | refine blk_alloc ?_ _)); refine blk_put (cs := #[.bool x642000_3, .slice none 0 0, .int .i64 x642002_3]) ?_ 0 _ rfl; (with_reducible repeat (first | refine blk_drewN ?_ _ | refine blk_drew ?_ | refine blk_alloc ?_ _)); exact BK641.out) Try.underlying49 rfl (by kernel_rfl)) rfl ?_
                      exact ⟨_, by first | rfl | (simp [errW_none, errW_some] <;> rfl) | (simp [*, errW_none, errW_some] <;> rfl), by (with_reducible repeat (first | apply Kd.R_alloc | apply Kd.R_drewN | apply Kd.R_drew)); exact Kd.R_mono (Kd.R_far (p := ⟨gb641, 2, none⟩) (Kd.R_far (p := ⟨gb641, 1, none⟩) (Kd.R_far (p := ⟨gb641, 0, none⟩) (Kd.R_types HO_8.out BK641.out (by decide)) (fun _ hk => hk.2) (.bool true)) (fun _ hk => hk.2) (.slice Ao84 x8_3.length co84)) (fun _ hk => hk.2) (.int .i64 t653)) (fun _ hk => trivial), by repeat (first | (with_reducible first | exact HB.out | apply below_alloc | apply pw_below_drewN | apply below_drew1 | refine below_set ?_ GE640.out | refine below_set ?_ GE641.out) | exact HB.out)⟩
                    · rw [if_neg c83] at H
                      have c83b0 : ((strOfNums t684).toList == (strOfNums x9_3).toList) = false := beq_eq_false_iff_ne.mpr c83
                      have c83b1 : ((strOfNums t684).toList != (strOfNums x9_3).toList) = true := bne_iff_ne.mpr c83
                      simp only [Option.some.injEq, Prod.mk.injEq] at H
                      obtain ⟨rfl, rfl, rfl⟩ := H
                      obtain ⟨Ao94, co94, eo94⟩ := Kd.R_slice HO_8.out
                      subst eo94
                      try go_wp2
                      have n0_ := Aside0.mk (Kd.R_drew HO_8.out)
                      have n1_ := Aside0.mk (Kd.R_drew HO_9.out)
                      have n2_ := Aside0.mk (blk_drew BK640.out)
                      have n3_ := Aside0.mk (blk_drew BK641.out)
                      have n4_ := Aside0.mk (below_drew1 HB.out)
                      clear HO_8
                      clear HO_9
                      clear BK640
                      clear BK641
                      clear HB
                      have HO_8 := n0_
                      have HO_9 := n1_
                      have BK640 := n2_
                      have BK641 := n3_
                      have HB := n4_
                      clear n0_ n1_ n2_ n3_ n4_
                      obtain ⟨AoX_, coX_, eoX_⟩ := Kd.R_slice HO_9.out
                      subst eoX_
                      refine start_ (n := 13) (S := fun w' => Kd.R (Kd.int .u8) 5 w' w.heap.size (fun _ => True) (.slice AoX_ x9_3.length coX_) x9_3) (ds := []) #[false, false, false, false, false, false, false, false, false, false, false, false, false] (by kernel_rfl) rfl rfl (Kd.R_mono HO_9.out (fun _ _ => trivial)) (fun hHeld => ?_); refine with_tabW spec_ReadRec.gtab17 spec_ReadRec.gbits17 (fun HT_ HW_ => ?_)
                      generalize wr.drew = w95 at HO_8 HO_9 BK640 BK641 HB hHeld ⊢
                      refine pure_ (i := 0) (N := some 75) (v := ?_) (a' := ?_) #[true, false, false, false, false, false, false, false, false, false, false, false, false] rfl rfl (any_of HT_.out (by kernel_rfl)) (fun _ _ _ h => h) (Or.inl ⟨by rfl, ?_⟩) ?_ ?_
                      rotate_left
                      · intro w'
                        go_simp
                        with_reducible rfl
                      rotate_left
                      · simp only [Act.put, List.setIfInBounds_toArray, List.set_cons_zero, List.set_cons_succ, i64_w, i32_w]
                        rfl
                      refine pure_ (i := 1) (N := some 76) (v := ?_) (a' := ?_) #[true, true, false, false, false, false, false, false, false, false, false, false, false] rfl rfl (any_of HT_.out (by kernel_rfl)) (fun _ _ _ h => h) (Or.inl ⟨by rfl, ?_⟩) ?_ ?_
                      rotate_left
                      · intro w'
                        go_simp
                        with_reducible rfl
                      rotate_left
                      · simp only [Act.put, List.setIfInBounds_toArray, List.set_cons_zero, List.set_cons_succ, i64_w, i32_w]
                        rfl
                      refine pure_ (i := 2) (N := some 77) (v := ?_) (a' := ?_) #[true, true, true, false, false, false, false, false, false, false, false, false, false] rfl rfl (any_of HT_.out (by kernel_rfl)) (fun _ _ _ h => h) (Or.inl ⟨by rfl, ?_⟩) ?_ ?_
                      rotate_left
                      · intro w'
                        go_simp
                        with_reducible rfl
                      rotate_left
                      · simp only [Act.put, List.setIfInBounds_toArray, List.set_cons_zero, List.set_cons_succ, i64_w, i32_w]
                        rfl
                      refine pure_ (i := 3) (N := some 78) (v := ?_) (a' := ?_) #[true, true, true, true, false, false, false, false, false, false, false, false, false] rfl rfl (any_of HT_.out (by kernel_rfl)) (fun _ _ _ h => h) (Or.inl ⟨by rfl, ?_⟩) ?_ ?_
                      rotate_left
                      · intro w'
                        go_simp
                        with_reducible rfl
                      rotate_left
                      · simp only [Act.put, List.setIfInBounds_toArray, List.set_cons_zero, List.set_cons_succ, i64_w, i32_w]
                        rfl
                      refine pure_ (i := 4) (N := some 79) (v := ?_) (a' := ?_) #[true, true, true, true, true, false, false, false, false, false, false, false, false] rfl rfl (any_of HT_.out (by kernel_rfl)) (fun _ _ _ h => h) (Or.inl ⟨by rfl, ?_⟩) ?_ ?_
                      rotate_left
                      · intro w'
                        go_simp
                        with_reducible rfl
                      rotate_left
                      · simp only [Act.put, List.setIfInBounds_toArray, List.set_cons_zero, List.set_cons_succ, i64_w, i32_w]
                        rfl
                      refine pure_ (i := 5) (N := some 80) (v := ?_) (a' := ?_) #[true, true, true, true, true, true, false, false, false, false, false, false, false] rfl rfl (any_of HT_.out (by kernel_rfl)) (fun _ _ _ h => h) (Or.inl ⟨by rfl, ?_⟩) ?_ ?_
                      rotate_left
                      · intro w'
                        go_simp
                        with_reducible rfl
                      rotate_left
                      · simp only [Act.put, List.setIfInBounds_toArray, List.set_cons_zero, List.set_cons_succ, i64_w, i32_w]
                        rfl
                      refine pure_ (i := 9) (N := some 84) (v := ?_) (a' := ?_) #[true, true, true, true, true, true, false, false, false, true, false, false, false] rfl rfl (any_of HT_.out (by kernel_rfl)) (fun _ _ _ h => h) (Or.inl ⟨by rfl, ?_⟩) ?_ ?_
                      rotate_left
                      · intro w'
                        go_simp
                        with_reducible rfl
                      rotate_left
                      · simp only [Act.put, List.setIfInBounds_toArray, List.set_cons_zero, List.set_cons_succ, i64_w, i32_w]
                        rfl
                      refine take_ (i := 10) (N := some 85) (v := ?_) (a' := ?_) #[true, true, true, true, true, true, false, false, false, true, true, false, false] rfl rfl (take_ofW HT_.out HW_.out (by kernel_rfl)) (fun _ _ _ h => h) (Or.inl ⟨by rfl, ?_⟩) hHeld ?_ ?_
                      rotate_left
                      · rintro w' s0
                        have hcvs_ := own_string (P := Try.prog) Try.underlying22 Try.underlying5 Try.underlying9 (Kd.own_of_R s0)
                        go_simp
                        first | with_reducible rfl | rfl
                      rotate_left
                      · simp only [Act.put, List.setIfInBounds_toArray, List.set_cons_zero, List.set_cons_succ, i64_w, i32_w]
                        rfl
                      refine one_ (i := 6) (N := some 81) #[true, true, true, true, true, true, true, false, false, true, true, false, false] rfl rfl (one_of HT_.out (by kernel_rfl)) (by decide) (fun K hK => ?_)
                      refine goes_ Try.func69 (by kernel_rfl) rfl #[.int .i64 a2, .slice Ao94 x8_3.length co94] (by rfl) rfl rfl (by (try simp only [List.map_toArray, List.map_cons, List.map_nil]); first | done | rfl | (simp only [List.length_drop, List.length_take]; rfl)) ?_
                      with_reducible refine (spec_l2Sectors.calls k3 a2 (fun k_ => some k_ = (.slice Ao94 x8_3.length co94 : Value).ownBlock) _ _ x8_3 t681 _ ?side1 A81.out).mono ?_
                      (case side1 => exact Kd.R_V (Kd.R_tight rfl (Kd.R_types (Kd.R_types (HO_8.out) BK640.out (by decide)) BK641.out (by decide))))
                      rintro e w96 ⟨v682, rfl, ho0, hb⟩
                      refine ⟨_, rfl, ?_⟩
                      have n0_ := Aside0.mk (Kd.R_below (by (with_reducible repeat (first | apply Kd.R_alloc | apply Kd.R_drewN | apply Kd.R_drew)); exact HO_8.out) hb)
                      have n1_ := Aside0.mk (Kd.R_below (by (with_reducible repeat (first | apply Kd.R_alloc | apply Kd.R_drewN | apply Kd.R_drew)); exact HO_9.out) hb)
                      have n2_ := Aside0.mk (Kd.N_lower (Kd.N_mono (ok' := fun k_ => some k_ ≠ ((.slice AoX_ x9_3.length coX_) : Value).ownBlock ∧ k_ ≠ gb640 ∧ k_ ≠ gb641) ho0 (fun k_ hk_ => ⟨Or.elim hk_ (fun hs_ => ((Kd.R_types (Kd.R_types (HO_8.out) BK640.out (by decide)) BK641.out (by decide)).1 k_ hs_.symm).1.1) (fun hn_ => (Kd.fresh' (Kd.R_lt (by (with_reducible repeat (first | apply Kd.R_alloc | apply Kd.R_drewN | apply Kd.R_drew)); exact HO_9.out)) k_ hn_)), Or.elim hk_ (fun hs_ => ((Kd.R_types (Kd.R_types (HO_8.out) BK640.out (by decide)) BK641.out (by decide)).1 k_ hs_.symm).1.2) (fun hn_ => (Kd.freshB (g := gb640) (o := .cells #[.slice A0_0 l0_0.length c0_0, .slice A0_1 l0_1.length c0_1, .int .i64 a0_2, .bool a0_3] 25 (0, 0)) (by (with_reducible repeat (first | refine blk_drewN ?_ _ | refine blk_drew ?_ | refine blk_alloc ?_ _)); exact BK640.out) k_ hn_)), Or.elim hk_ (fun hs_ => ((Kd.R_types (Kd.R_types (HO_8.out) BK640.out (by decide)) BK641.out (by decide)).1 k_ hs_.symm).2) (fun hn_ => (Kd.freshB (g := gb641) (o := .cells #[.bool x642000_3, .slice none 0 0, .int .i64 x642002_3] 49 (0, 0)) (by (with_reducible repeat (first | refine blk_drewN ?_ _ | refine blk_drew ?_ | refine blk_alloc ?_ _)); exact BK641.out) k_ hn_))⟩)) (below_size (by repeat (first | (with_reducible first | exact HB.out | apply below_alloc | apply pw_below_drewN | apply below_drew1 | refine below_set ?_ GE640.out | refine below_set ?_ GE641.out) | exact HB.out))))
                      have n3_ := Aside0.mk (blk_below (g := gb640) (o := .cells #[.slice A0_0 l0_0.length c0_0, .slice A0_1 l0_1.length c0_1, .int .i64 a0_2, .bool a0_3] 25 (0, 0)) (by (with_reducible repeat (first | refine blk_drewN ?_ _ | refine blk_drew ?_ | refine blk_alloc ?_ _)); exact BK640.out) hb)
                      have n4_ := Aside0.mk (blk_below (g := gb641) (o := .cells #[.bool x642000_3, .slice none 0 0, .int .i64 x642002_3] 49 (0, 0)) (by (with_reducible repeat (first | refine blk_drewN ?_ _ | refine blk_drew ?_ | refine blk_alloc ?_ _)); exact BK641.out) hb)
                      have n5_ := Aside0.mk (below_step (by repeat (first | (with_reducible first | exact HB.out | apply below_alloc | apply pw_below_drewN | apply below_drew1 | refine below_set ?_ GE640.out | refine below_set ?_ GE641.out) | exact HB.out)) hb)
                      clear HO_8
                      clear HO_9
                      clear BK640
                      clear BK641
                      clear HB
                      have HO_8 := n0_
                      have HO_9 := n1_
                      have HO683 := n2_
                      have BK640 := n3_
                      have BK641 := n4_
                      have HB := n5_
                      clear n0_ n1_ n2_ n3_ n4_ n5_
                      (try clear hb)
                      (try clear hb2)
                      (try clear hk)
                      (try clear hi)
                      (try clear ho0)
                      obtain ⟨Ao97, co97, eo97⟩ := Kd.N_slice HO683.out
                      (first | subst eo97 | (injection eo97 with f1_ f2_ f3_; have f4_ := f1_.symm; have f5_ := f3_.symm; clear f1_ f2_ f3_; subst f4_; subst f5_))
                      refine hK.out _ _ (Kd.R_mono HO_9.out (fun _ _ => trivial)) (fun hHeld => ?_)
                      clear hK K
                      refine norm_ (a' := ?_) ?_ ?_
                      rotate_left
                      · show Act.put _ (some 81) _ = _
                        simp only [Act.put, List.setIfInBounds_toArray, List.set_cons_zero, List.set_cons_succ, i64_w, i32_w]
                        rfl
                      refine one_ (i := 7) (N := some 82) #[true, true, true, true, true, true, true, true, false, true, true, false, false] rfl rfl (one_of HT_.out (by kernel_rfl)) (by decide) (fun K hK => ?_)
                      refine goes_ Try.func68 (by kernel_rfl) rfl #[.slice Ao97 t681.length co97] (by rfl) rfl rfl (by (try simp only [List.map_toArray, List.map_cons, List.map_nil]); first | done | rfl | (simp only [List.length_drop, List.length_take]; rfl)) ?_
                      with_reducible refine (spec_l2Cat.calls k3 _ _ t681 t684 _ ?side1 ?side2 A82.out).mono ?_
                      (case side1 => repeat (first | exact (Kd.N_reads' HO683.out).2.2 | (with_reducible refine Kd.C_alloc ?_ _) | (with_reducible refine Kd.C_drewN ?_ _) | (with_reducible refine Kd.C_drew ?_)))
                      (case side2 => exact (Kd.N_reads' HO683.out).2.1)
                      rintro e w98 ⟨v685, rfl, ho0, hb⟩
                      refine ⟨_, rfl, ?_⟩
                      have n0_ := Aside0.mk (Kd.R_elder' (by (with_reducible repeat (first | apply Kd.R_alloc | apply Kd.R_drewN | apply Kd.R_drew)); exact HO_8.out) (Kd.R_base ho0) hb)
                      have n1_ := Aside0.mk (Kd.R_elder' (by (with_reducible repeat (first | apply Kd.R_alloc | apply Kd.R_drewN | apply Kd.R_drew)); exact HO_9.out) (Kd.R_base ho0) hb)
                      have n2_ := Aside0.mk (Kd.N_elder' (by (with_reducible repeat (first | apply Kd.N_alloc | apply Kd.N_drewN | apply Kd.N_drew)); exact HO683.out) (Kd.R_base ho0) hb)
                      have n3_ := Aside0.mk (Kd.R_lower (Kd.R_new' (Kd.R_new' ho0 (Kd.R_lt (by (with_reducible repeat (first | apply Kd.R_alloc | apply Kd.R_drewN | apply Kd.R_drew)); exact HO_8.out))) (Kd.R_lt (by (with_reducible repeat (first | apply Kd.R_alloc | apply Kd.R_drewN | apply Kd.R_drew)); exact HO_9.out))) (below_size (by repeat (first | (with_reducible first | exact HB.out | apply below_alloc | apply pw_below_drewN | apply below_drew1 | refine below_set ?_ GE640.out | refine below_set ?_ GE641.out) | exact HB.out))))
                      have n4_ := Aside0.mk (blk_below (g := gb640) (o := .cells #[.slice A0_0 l0_0.length c0_0, .slice A0_1 l0_1.length c0_1, .int .i64 a0_2, .bool a0_3] 25 (0, 0)) (by (with_reducible repeat (first | refine blk_drewN ?_ _ | refine blk_drew ?_ | refine blk_alloc ?_ _)); exact BK640.out) hb)
                      have n5_ := Aside0.mk (blk_below (g := gb641) (o := .cells #[.bool x642000_3, .slice none 0 0, .int .i64 x642002_3] 49 (0, 0)) (by (with_reducible repeat (first | refine blk_drewN ?_ _ | refine blk_drew ?_ | refine blk_alloc ?_ _)); exact BK641.out) hb)
                      have n6_ := Aside0.mk (below_step (by repeat (first | (with_reducible first | exact HB.out | apply below_alloc | apply pw_below_drewN | apply below_drew1 | refine below_set ?_ GE640.out | refine below_set ?_ GE641.out) | exact HB.out)) hb)
                      clear HO_8
                      clear HO_9
                      clear HO683
                      clear BK640
                      clear BK641
                      clear HB
                      have HO_8 := n0_
                      have HO_9 := n1_
                      have HO683 := n2_
                      have HO686 := n3_
                      have BK640 := n4_
                      have BK641 := n5_
                      have HB := n6_
                      clear n0_ n1_ n2_ n3_ n4_ n5_ n6_
                      (try clear hb)
                      (try clear hb2)
                      (try clear hk)
                      (try clear hi)
                      (try clear ho0)
                      have hcv100 := own_string (P := Try.prog) Try.underlying22 Try.underlying5 Try.underlying9 (Kd.own_of_R HO_9.out)
                      refine hK.out _ _ (Kd.R_mono HO_9.out (fun _ _ => trivial)) (fun hHeld => ?_)
                      clear hK K
                      refine norm_ (a' := ?_) ?_ ?_
                      rotate_left
                      · show Act.put _ (some 82) _ = _
                        simp only [Act.put, List.setIfInBounds_toArray, List.set_cons_zero, List.set_cons_succ, i64_w, i32_w]
                        rfl
                      refine one_ (i := 8) (N := some 83) #[true, true, true, true, true, true, true, true, true, true, true, false, false] rfl rfl (one_of HT_.out (by kernel_rfl)) (by decide) (fun K hK => ?_)
                      have hcv99 := own_string (P := Try.prog) Try.underlying22 Try.underlying5 Try.underlying9 (Kd.own_of_R HO686.out)
                      refine value_ (w1 := ?_) (v := ?_) (by rfl) rfl ?_ ?_
                      rotate_left 2
                      · go_simp
                        constructor
                        ·rfl
                        ·rfl
                      clear hcv99
                      refine hK.out _ _ (Kd.R_mono HO_9.out (fun _ _ => trivial)) (fun hHeld => ?_)
                      clear hK K
                      refine norm_ (a' := ?_) ?_ ?_
                      rotate_left
                      · show Act.put _ (some 83) _ = _
                        simp only [Act.put, List.setIfInBounds_toArray, List.set_cons_zero, List.set_cons_succ, i64_w, i32_w]
                        rfl
                      refine pure_ (i := 11) (N := some 86) (v := ?_) (a' := ?_) #[true, true, true, true, true, true, true, true, true, true, true, true, false] rfl rfl (any_of HT_.out (by kernel_rfl)) (fun _ _ _ h => h) (Or.inl ⟨by rfl, ?_⟩) ?_ ?_
                      rotate_left
                      · intro w'
                        go_simp
                        with_reducible rfl
                      rotate_left
                      · simp only [Act.put, List.setIfInBounds_toArray, List.set_cons_zero, List.set_cons_succ, i64_w, i32_w]
                        rfl
                      refine pure_ (i := 12) (N := some 87) (v := ?_) (a' := ?_) #[true, true, true, true, true, true, true, true, true, true, true, true, true] rfl rfl (any_of HT_.out (by kernel_rfl)) (fun _ _ _ h => h) (Or.inl ⟨by rfl, ?_⟩) ?_ ?_
                      rotate_left
                      · intro w'
                        go_simp
                        with_reducible rfl
                      rotate_left
                      · simp only [Act.put, List.setIfInBounds_toArray, List.set_cons_zero, List.set_cons_succ, i64_w, i32_w]
                        rfl
                      refine done_ (done_of HT_.out (by kernel_rfl)) ?_
                      have hnb102 := NB641_640.out
                      have hnc102 := NB640_641.out
                      have hcz103_0 : w98.cell? ⟨gb641, 0, none⟩ = some (.bool x642000_3) := (blk_cell BK641.out 0).trans rfl
                      have hcz103_1 : w98.cell? ⟨gb641, 1, none⟩ = some (.slice none 0 0) := (blk_cell BK641.out 1).trans rfl
                      have hcz103_2 : w98.cell? ⟨gb641, 2, none⟩ = some (.int .i64 x642002_3) := (blk_cell BK641.out 2).trans rfl
                      have hfz103_0 := blk_frozen BK641.out 0
                      have hfz103_1 := blk_frozen BK641.out 1
                      have hfz103_2 := blk_frozen BK641.out 2
                      try go_wp2
                      refine bodyPost_ret (results_cell_row rfl _ _ gb641 49 #[.bool false, .slice none 0 0, .int .i64 0] (0, 0) _ rfl (by (with_reducible repeat (first | refine blk_drewN ?_ _ | refine blk_drew ?_ | refine blk_alloc ?_ _)); refine blk_put (cs := #[.bool false, .slice none 0 0, .int .i64 x642002_3]) ?_ 2 _ rfl; (with_reducible repeat (first | refine blk_drewN ?_ _ | refine blk_drew ?_ | refine blk_alloc ?_ _)); refine blk_put (cs := #[.bool false, .slice none 0 0, .int .i64 x642002_3]) ?_ 1 _ rfl; (with_reducible repeat (first | refine blk_drewN ?_ _ | refine blk_drew ?_ | refine blk_alloc ?_ _)); refine blk_put (cs := #[.bool x642000_3, .slice none 0 0, .int .i64 x642002_3]) ?_ 0 _ rfl; (with_reducible repeat (first | refine blk_drewN ?_ _ | refine blk_drew ?_ | refine blk_alloc ?_ _)); exact BK641.out) Try.underlying49 rfl (by kernel_rfl)) rfl ?_
                      exact ⟨_, by first | rfl | (simp [errW_none, errW_some] <;> rfl) | (simp [*, errW_none, errW_some] <;> rfl), by first | exact Kd.R_nil _ _ _ _ _ | exact Kd.N_nil _ _ _ _ _ | exact Kd.V_nil _ _ _ _ _ | exact Kd.Q_nil _ _ _ _ _ | exact Kd.S_nil _ _ _ _ _, by repeat (first | (with_reducible first | exact HB.out | apply below_alloc | apply pw_below_drewN | apply below_drew1 | refine below_set ?_ GE640.out | refine below_set ?_ GE641.out) | exact HB.out)⟩
       · rw [if_neg c32] at H
         exact absurd H (by simp)
      ·rw [if_neg c31] at H
       exact absurd H (by simp)
end Go.Proofs.Yteddpdonmhiplaa.PR
