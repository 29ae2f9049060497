-- Made by this session's programs out of the translation and of its own texts.
import Derived.Test.YteddpdonmhiplaaMFnExactWriteRece
namespace Go.Proofs.Yteddpdonmhiplaa.PR
open Go.RowKit Go.Proofs.YteddpdonmhiplaaW.PrintWords Go.Proofs.YteddpdonmhiplaaW.PrintLast Go.Proofs.YteddpdonmhiplaaW.PrintMore
attribute [local go_sem] max2_int min2_int max_two min_two max_three min_three max_four min_four   -- for this text's walks alone
set_option linter.unusedVariables false
set_option linter.unusedSimpArgs false

/-! ### spec_WriteRec: function 35 -/
mutual
def spec_WriteRec.j0 : Nat → Int → Int → List Int → Int → Bool → List Int → List (S79) → Int → Bool → Option (List Int × (List (S79)) × Int × Bool)
 | 0, _, _, _, _, _, _, _, _, _ => none
 | k + 1, x1, x2, x3, x9, x44, x784000, x784001, x784002, x784003 => if x44 = true then ((spec_l1Copy.f k x784000 x784001 x784002 x784003).bind fun bt790 => (some (bt790.1, bt790.2.1, bt790.2.2.1, bt790.2.2.2))) else ((spec_l2Sectors.f k x2 x3).bind fun t798 => (spec_WriteRec.l0 k x1 x9 t798 0 x784000 x784001 x784002 x784003))
def spec_WriteRec.l0 : Nat → Int → Int → List (List Int) → Int → List Int → List (S79) → Int → Bool → Option (List Int × (List (S79)) × Int × Bool)
 | 0, _, _, _, _, _, _, _, _ => none
 | k + 1, x1, x9, x10, x11, x784000, x784001, x784002, x784003 => if (wrap64 (x11 + 1)) < x9 then (if 0 ≤ x11 then (if x11 < (x10.length : Int) then ((spec_DiskWrite.f k x784000 x784001 x784002 x784003 (wrap64 (x1 + x11)) (rd_L2 x10 x11)).bind fun bt802 => (spec_WriteRec.l0 k x1 x9 x10 (wrap64 (x11 + 1)) bt802.1 bt802.2.1 bt802.2.2.1 bt802.2.2.2)) else (none)) else (none)) else (if x9 > 1 then ((spec_DiskSync.f k x784000 x784001 x784002 x784003).bind fun bt810 => (if 0 ≤ (wrap64 (x9 - 1)) then (if (wrap64 (x9 - 1)) < (x10.length : Int) then ((spec_DiskWrite.f k bt810.1 bt810.2.1 bt810.2.2.1 bt810.2.2.2 (wrap64 ((wrap64 (x1 + x9)) - 1)) (rd_L2 x10 (wrap64 (x9 - 1)))).bind fun bt819 => ((spec_DiskSync.f k bt819.1 bt819.2.1 bt819.2.2.1 bt819.2.2.2).bind fun bt827 => (some (bt827.1, bt827.2.1, bt827.2.2.1, bt827.2.2.2)))) else (none)) else (none))) else (if 0 ≤ (wrap64 (x9 - 1)) then (if (wrap64 (x9 - 1)) < (x10.length : Int) then ((spec_DiskWrite.f k x784000 x784001 x784002 x784003 (wrap64 ((wrap64 (x1 + x9)) - 1)) (rd_L2 x10 (wrap64 (x9 - 1)))).bind fun bt836 => ((spec_DiskSync.f k bt836.1 bt836.2.1 bt836.2.2.1 bt836.2.2.2).bind fun bt844 => (some (bt844.1, bt844.2.1, bt844.2.2.1, bt844.2.2.2)))) else (none)) else (none)))
end
def spec_WriteRec.f (k : Nat) (l0_0 : List Int) (l0_1 : List (S79)) (a0_2 : Int) (a0_3 : Bool) (a1 : Int) (a2 : Int) (l3 : List Int) : Option (List Int × (List (S79)) × Int × Bool) := (spec_RecSectors.f k (l3.length : Int)).bind fun t785 => ((spec_ValidDisk.f k l0_0 l0_1 a0_2 a0_3).bind fun t786 => (if t786 = true then ((spec_l2Number.f a2).bind fun t787 => (if t787 = true then (if t785 = 0 then (spec_WriteRec.j0 k a1 a2 l3 t785 true l0_0 l0_1 a0_2 a0_3) else (if a1 < 2 then (spec_WriteRec.j0 k a1 a2 l3 t785 true l0_0 l0_1 a0_2 a0_3) else ((spec_l1Sectors.f l0_0 l0_1 a0_2 a0_3).bind fun t788 => (if a1 > t788 then (spec_WriteRec.j0 k a1 a2 l3 t785 true l0_0 l0_1 a0_2 a0_3) else ((spec_l1Sectors.f l0_0 l0_1 a0_2 a0_3).bind fun t789 => (spec_WriteRec.j0 k a1 a2 l3 t785 (decide ((wrap64 (a1 + t785)) > t789)) l0_0 l0_1 a0_2 a0_3)))))) else (spec_WriteRec.j0 k a1 a2 l3 t785 true l0_0 l0_1 a0_2 a0_3))) else (spec_WriteRec.j0 k a1 a2 l3 t785 true l0_0 l0_1 a0_2 a0_3)))
def spec_WriteRec.T8 : Bool × List (List Nat × List Nat) := (true, [([], []), ([], []), ([], []), ([1, 2], [1, 2]), ([], []), ([], []), ([4, 5], [4, 5]), ([6], [6]), ([0, 3, 7], [0, 3, 7]), ([8, 8, 0, 1, 2, 3, 4, 5, 6, 7, 8], [8])])
def spec_WriteRec.B8 : List Nat := [0, 0, 0, 6, 0, 0, 48, 112, 255, 511]
def spec_WriteRec.T11 : Bool × List (List Nat × List Nat) := (true, [([], []), ([], []), ([], []), ([1, 2], [1, 2]), ([3], [3]), ([], []), ([], []), ([6], [6]), ([5, 7], [5, 7]), ([8], [8]), ([0, 4, 9], [0, 4, 9]), ([10, 10], [10]), ([11, 11, 0, 1, 2, 3, 4, 5, 6, 7, 8, 9, 10, 11], [11])])
def spec_WriteRec.B11 : List Nat := [0, 0, 0, 6, 14, 0, 0, 64, 224, 480, 1023, 2047, 4095]
-- needs DB.put mWR m_WriteRec.f specNum_eq sectors_ev spec_l2Sectors.calls wrAll_dead recSec_ev
theorem recSec_big (n : Nat) (h : ¬ n ≤ 30000) : Ev (fun k => spec_RecSectors.f k (n : Int)) 0 := by
 unfold spec_RecSectors.f
 refine Ev.congr (fun k => by rw [if_neg (by omega), decide_eq_true (by omega)]) ?_
 exact Ev.step (fun K => by rw [spec_RecSectors.j0, if_pos rfl]) (Ev.now _)
def recI (n : Nat) : Int := if n ≤ 30000 then (recK n : Int) else 0
theorem recI_ev (n : Nat) : Ev (fun k => spec_RecSectors.f k (n : Int)) (recI n) := by
 unfold recI
 by_cases h : n ≤ 30000
 ·rw [if_pos h]; exact recSec_ev n h
 ·rw [if_neg h]; exact recSec_big n h
theorem recK_pos (n : Nat) : 1 ≤ recK n := by unfold recK; split <;> omega
theorem recK_le (n : Nat) (h : n ≤ 30000) : recK n ≤ 625 := by unfold recK; split <;> omega
theorem recI_zero {n : Nat} (h : recI n = 0) : ¬ n ≤ 30000 := by
 intro hn
 unfold recI at h
 rw [if_pos hn] at h
 have := recK_pos n
 omega
theorem recI_ne {n : Nat} (h : ¬ recI n = 0) : n ≤ 30000 ∧ recI n = recK n := by
 unfold recI at h ⊢
 by_cases hn : n ≤ 30000
 ·rw [if_pos hn]; exact ⟨hn, rfl⟩
 ·rw [if_neg hn] at h; exact absurd rfl h
theorem wrS_len (seq : Int) (P : List Int) (i : Nat) : (wrS seq P i).length = 64 := by
 unfold wrS pcOf
 rw [List.length_append, sec0_len _ _ _ _ (pieceOf_len P i)]
 rfl
theorem secs_rd {seq : Int} {P : List Int} {i : Nat} (h : i < recK P.length) : rd_L2 (secsOf crcF seq P) (i : Int) = wrS seq P i := by
 unfold rd_L2 secsOf wrS
 rw [Int.toNat_natCast, List.getD_eq_getElem?_getD, List.getElem?_map, List.getElem?_range h]
 rfl
set_option maxHeartbeats 4000000 in
set_option maxRecDepth 100000 in
theorem spec_WriteRec_any (A0 : Option Addr) (c0 : Nat) (l0 : List Int) (A1 : Option Addr) (c1 : Nat) (l1 : List S79) (a2 : Int) (a3 : Bool) (at_ seq : Int) (A3 : Option Addr) (c3 : Nat) (P : List Int) (w : World)
  (hr0 : Kd.C (Kd.int .u8) w A0 l0.length l0) (hc0 : l0.length ≤ c0) (hr1 : Kd.C k79 w A1 l1.length l1) (hc1 : l1.length ≤ c1) (hr3 : Kd.C (Kd.int .u8) w A3 P.length P) (hc3 : P.length ≤ c3) (h0 : l0.length ≤ 1048576) (hok : okPendS l1) (hP : P.length ≤ 1048576) :
  Calls Try.prog 35 #[.agg #[.slice A0 l0.length c0, .slice A1 l1.length c1, .int .i64 a2, .bool a3], .int .i64 at_, .int .i64 seq, .slice A3 P.length c3] w fun e w' => ∃ v0 v1 : Value, e = .returned (.agg #[v0, v1, .int .i64 (mWR l0 l1 a2 a3 at_ seq P).2.2.1, .bool (mWR l0 l1 a2 a3 at_ seq P).2.2.2]) ∧ Kd.R (Kd.int .u8) 5 w' w.heap.size (fun _ => True) v0 (mWR l0 l1 a2 a3 at_ seq P).1 ∧ Kd.S k79 79 w' w.heap.size (fun k_ => some k_ ≠ v0.ownBlock) v1 (mWR l0 l1 a2 a3 at_ seq P).2.1 ∧ Below w.heap.size w w' := by
 obtain ⟨kv, hv⟩ := (specValid_ev l0 l1 a2 a3 h0 hok.1).rounds
 obtain ⟨kr, hr⟩ := (recI_ev P.length).rounds
 obtain ⟨kc, hcp⟩ := (specCopy_ev l0 l1 a2 a3 h0 hok).rounds
 have HV := Aside0.mk hv
 have HK := Aside0.mk hr
 have HCP := Aside0.mk hcp
 have HR0 := Aside0.mk hr0
 have HC0 := Aside0.mk hc0
 have HR1 := Aside0.mk hr1
 have HC1 := Aside0.mk hc1
 have HR3 := Aside0.mk hr3
 have HC3 := Aside0.mk hc3
 have H0 := Aside0.mk h0
 have HOK := Aside0.mk hok
 have HP := Aside0.mk hP
 clear hv hr hcp hr0 hc0 hr1 hc1 hr3 hc3 h0 hok hP
 have hu25 := Try.underlying25
 have K8 := Aside0.mk (blk_new (w.alloc (.cells #[.slice A0 l0.length c0, .slice A1 l1.length c1, .int .i64 a2, .bool a3] 25)) (.cells #[.slice none 0 0, .slice none 0 0, .int .i64 0, .bool false] 25))
 simp only [World.size_alloc] at K8
 have HD := Aside0.mk (DB.new (zz := #[.slice none 0 0, .slice none 0 0, .int .i64 0, .bool false]) (a2 := a2) (a3 := a3) HR0.out HC0.out HR1.out HC1.out)
 go_enter Try.func35, Try.ntmps35
 go_wp2_with fail
 generalize ((w.alloc (.cells #[.slice A0 l0.length c0, .slice A1 l1.length c1, .int .i64 a2, .bool a3] 25)).alloc (.cells #[.slice none 0 0, .slice none 0 0, .int .i64 0, .bool false] 25)) = W0 at *
 refine (spec_RecSectors.calls kr _ _ _ HK.out).mono ?_
 rintro e W1 ⟨rfl, hd⟩
 have hb := hd.below
 replace HD := Aside0.mk (HD.out.below hb)
 replace K8 := Aside0.mk (blk_below K8.out hb)
 clear hd hb
 obtain ⟨g, hg⟩ : ∃ g, g = w.heap.size := ⟨_, rfl⟩
 have HG := Aside0.mk hg
 rw [← hg] at HD K8 ⊢
 clear hg
 go_upto_region 2 with (fail)
 go_cut [44] (fun v44 wc => ∃ bad : Bool, v44 = .bool bad ∧ Aside0 (bad = true ↔ ¬ wrC l0 l1 a2 at_ seq P) ∧ Aside0 (DB w wc g A0 c0 A1 c1 l0 l1 a2 a3) ∧ Aside0 (wc.heap[g + 1]? = some (.cells #[.slice none 0 0, .slice none 0 0, .int .i64 0, .bool false] 25 (0, 0))))
 case first =>
  obtain ⟨z0, z1, z2, z3, y0, y1, y2, y3⟩ := blk_cells4 HD.out.box
  go_wp2_with fail
  refine (spec_ValidDisk.calls kv _ _ l0 _ _ l1 a2 a3 _ _ HD.out.c0 HD.out.n0 HD.out.c1 HD.out.n1 HV.out).mono ?_
  rintro e W2 ⟨rfl, hd⟩
  have hb := hd
  replace HD := Aside0.mk (HD.out.below hb)
  replace K8 := Aside0.mk (blk_below K8.out hb)
  clear hb z0 z1 z2 z3 y0 y1 y2 y3
  obtain ⟨z0, z1, z2, z3, y0, y1, y2, y3⟩ := blk_cells4 HD.out.box
  by_cases cv : vD l0 l1 a2 = true
  case neg =>
    have cv' : vD l0 l1 a2 = false := by simpa using cv
    rw [cv']
    go_wp2_with fail
    go_meet
    case rel => exact ⟨true, rfl, ⟨by simp [wrC, cv']⟩, HD, K8⟩
  rw [cv]
  have CV := Aside0.mk cv
  clear cv
  clear hd
  go_wp2_with fail
  refine (spec_l2Number.calls seq _ _ (specNum_eq seq)).mono ?_
  rintro e W3 ⟨rfl, hd⟩
  have hb := hd.below
  replace HD := Aside0.mk (HD.out.below hb)
  replace K8 := Aside0.mk (blk_below K8.out hb)
  clear hb z0 z1 z2 z3 y0 y1 y2 y3
  obtain ⟨z0, z1, z2, z3, y0, y1, y2, y3⟩ := blk_cells4 HD.out.box
  clear hd
  by_cases cg : gN seq = true
  case neg =>
    have cg' : gN seq = false := by simpa using cg
    rw [cg']
    go_wp2_with fail
    go_meet
    case rel => exact ⟨true, rfl, ⟨by simp [wrC, cg']⟩, HD, K8⟩
  rw [cg]
  have CG := Aside0.mk cg
  clear cg
  by_cases ck : recI P.length = 0
  · have ckb : (recI P.length == 0) = true := by simpa using ck
    have CK := Aside0.mk (recI_zero ck)
    clear ck
    go_wp2_with fail
    go_meet
    case rel => exact ⟨true, rfl, ⟨by have := CK.out; simp [wrC, this]⟩, HD, K8⟩
  have CK := Aside0.mk (recI_ne ck)
  have ckb : (recI P.length == 0) = false := by simpa using ck
  clear ck
  by_cases c2 : at_ < 2
  · have C2 := Aside0.mk c2
    go_wp2_with fail
    go_meet
    case rel => exact ⟨true, rfl, ⟨by have := C2.out; simp only [wrC, true_iff]; omega⟩, HD, K8⟩
  have C2 := Aside0.mk c2
  have hsec : spec_l1Sectors.f l0 l1 a2 a3 = some ((l0.length / 64 : Nat) : Int) := by unfold spec_l1Sectors.f; rw [sectors_at l0 H0.out]
  have HS := Aside0.mk hsec
  clear hsec
  go_wp2_with fail
  refine (spec_l1Sectors.calls _ _ l0 _ _ l1 a2 a3 _ _ HD.out.c0 HD.out.n0 HD.out.c1 HD.out.n1 HS.out).mono ?_
  rintro e W4 ⟨rfl, hd⟩
  have hb := hd
  replace HD := Aside0.mk (HD.out.below hb)
  replace K8 := Aside0.mk (blk_below K8.out hb)
  clear hb z0 z1 z2 z3 y0 y1 y2 y3
  obtain ⟨z0, z1, z2, z3, y0, y1, y2, y3⟩ := blk_cells4 HD.out.box
  clear hd
  by_cases c3 : ((l0.length / 64 : Nat) : Int) < at_
  · have C3 := Aside0.mk c3
    go_wp2_with fail
    go_meet
    case rel => exact ⟨true, rfl, ⟨by have h := C3.out; have h2 := recK_pos P.length; simp only [wrC, true_iff]; omega⟩, HD, K8⟩
  have C3 := Aside0.mk c3
  go_wp2_with fail
  refine (spec_l1Sectors.calls _ _ l0 _ _ l1 a2 a3 _ _ HD.out.c0 HD.out.n0 HD.out.c1 HD.out.n1 HS.out).mono ?_
  rintro e W5 ⟨rfl, hd⟩
  have hb := hd
  replace HD := Aside0.mk (HD.out.below hb)
  replace K8 := Aside0.mk (blk_below K8.out hb)
  clear hb z0 z1 z2 z3 y0 y1 y2 y3
  obtain ⟨z0, z1, z2, z3, y0, y1, y2, y3⟩ := blk_cells4 HD.out.box
  clear hd
  have hw : wrap64 (at_ + recI P.length) = at_ + recK P.length := by
    have h1 := recK_le P.length CK.out.1
    have h2 := C2.out
    have h3 := C3.out
    have h4 := H0.out
    rw [CK.out.2]
    unfold wrap64
    omega
  have HWW := Aside0.mk hw
  clear hw
  go_wp2_with fail
  go_meet
  case rel =>
    refine ⟨_, rfl, ⟨?_⟩, HD, K8⟩
    rw [HWW.out]
    have h1 := CK.out.1
    have h2 := C2.out
    have h3 := C3.out
    simp only [wrC, CV.out, CG.out, Bool.or_eq_true, decide_eq_true_eq, true_and]
    omega
 case rest =>
  clear HD K8
  obtain ⟨bad, rfl, HBAD, HD, K8⟩ := hcut
  obtain ⟨z0, z1, z2, z3, y0, y1, y2, y3⟩ := blk_cells4 HD.out.box
  cases bad with
  | true =>
    have HM := Aside0.mk (show mWR l0 l1 a2 a3 at_ seq P = (l0, l1, a2, a3) by unfold mWR; rw [if_neg (HBAD.out.1 rfl)])
    go_wp2_with fail
    refine (spec_l1Copy.calls kc _ _ l0 _ _ l1 a2 a3 l0 l1 a2 a3 _ HD.out.c0 HD.out.n0 HD.out.c1 HD.out.n1 HCP.out).mono ?_
    rintro e W7 ⟨v0, v1, rfl, hR, hS, gb⟩
    obtain ⟨A, c, ea⟩ := Kd.R_slice hR
    obtain ⟨B, d, eb⟩ := Kd.S_slice hS
    obtain ⟨f1, f2, f3, f4, f5⟩ := fin_disk (r3 := a2) (r4 := a3) HD.out.b (Nat.le_succ_of_le HD.out.le) K8.out hR hS gb
    have F2 := Aside0.mk f2
    have F3 := Aside0.mk f3
    have F4 := Aside0.mk f4
    have F5 := Aside0.mk f5
    clear z0 z1 z2 z3 y0 y1 y2 y3
    obtain ⟨x0, x1, x2, x3, u0, u1, u2, u3⟩ := blk_cells4 f1
    have ul := blk_lt f1
    clear f1 f2 f3 f4 f5 hR hS gb
    generalize l0.length = n1 at ea
    generalize l1.length = n2 at eb
    subst ea
    subst eb
    go_wp2_with fail
    refine bodyPost_ret (results_cell_row rfl _ _ (g + 1) 25 _ (0, 0) _ rfl F2.out hu25 rfl (by kernel_rfl)) rfl ?_
    rw [HM.out]
    exact ⟨_, _, rfl, F3.out, F4.out, F5.out⟩
  | false =>
    have hc : wrC l0 l1 a2 at_ seq P := by have := HBAD.out; simpa using this
    have HC := Aside0.mk hc
    have HM := Aside0.mk (show mWR l0 l1 a2 a3 at_ seq P = wrAll at_ (wrS seq P) (recK P.length) (l0, l1, a2, a3) by unfold mWR; rw [if_pos hc])
    have hk : recI P.length = (recK P.length : Int) := by unfold recI; rw [if_pos hc.2.2.1]
    have hgn : 1 ≤ seq ∧ seq ≤ 2000000000 := by have := hc.2.1; unfold gN at this; simpa using this
    obtain ⟨ks, hss⟩ := (sectors_ev crcF_ok seq (by omega) (by omega) P hc.2.2.1).rounds
    have HSS := Aside0.mk hss
    have hgs := blk_lt HD.out.box
    have HV3 := Aside0.mk (Kd.V_below (V_came (Kd.heap_int .u8) 5 wc.heap.size HR3.out HC3.out (show w.heap.size ≤ g from HD.out.le)) HD.out.b)
    rw [hk]
    clear hc hk hgn hss HBAD
    go_wp2_with fail
    refine (spec_l2Sectors.calls ks seq (fun k => k ≠ g) _ _ P _ _ HV3.out HSS.out).mono ?_
    rintro e W8 ⟨vs, rfl, hN, hb⟩
    obtain ⟨As, cs, rfl⟩ := Kd.N_slice hN
    have HN := Aside0.mk (Kd.N_mono hN (ok' := fun k => k ≠ g) (fun k hk => hk.elim id (fun h => by omega)))
    replace HD := Aside0.mk (HD.out.below hb)
    replace K8 := Aside0.mk (blk_below K8.out hb)
    clear hb hN z0 z1 z2 z3 y0 y1 y2 y3 hgs HV3 HSS
    have hsl : (secsOf crcF seq P).length = recK P.length := by unfold secsOf; simp
    have HKP := Aside0.mk (recK_pos P.length)
    have HKL := Aside0.mk (recK_le P.length HC.out.2.2.1)
    have HSL := Aside0.mk hsl
    clear hsl
    go_wp2_with fail
    go_loopg [11] (recK P.length) (fun kq v11 w' => ∃ (i : Nat) (q : List Int × List S79 × Int × Bool) (A B : Option Addr) (c d : Nat), v11 = .int .i64 i ∧ Aside0 (q = wrF at_ (wrS seq P) i (l0, l1, a2, a3)) ∧ Aside0 (i + 1 ≤ recK P.length ∧ recK P.length ≤ kq + i) ∧ Aside0 (DB w w' g A c B d q.1 q.2.1 q.2.2.1 q.2.2.2) ∧ Aside0 (w'.heap[g + 1]? = some (.cells #[.slice none 0 0, .slice none 0 0, .int .i64 0, .bool false] 25 (0, 0))) ∧ Aside0 (Kd.N (Kd.slice 5 (Kd.int .u8)) 22 w' wc.heap.size (fun k => k ≠ g) (.slice As (secsOf crcF seq P).length cs) (secsOf crcF seq P)))
    case atStart => exact ⟨0, (l0, l1, a2, a3), A0, A1, c0, c1, rfl, ⟨rfl⟩, ⟨HKP.out, by omega⟩, HD, K8, HN⟩
    case round =>
     clear HD K8 HN
     obtain ⟨i, q, A, B, c, d, rfl, HQ, HI, HD, K8, HN⟩ := hrel
     cases gk with
     | zero => exact absurd HI.out (by omega)
     | succ m =>
       have HOQ := Aside0.mk (show okQ q by rw [HQ.out]; exact wrF_ok ⟨H0.out, HOK.out⟩ at_ _ i)
       have hw1 : wrap64 ((i : Int) + 1) = ((i + 1 : Nat) : Int) := by have := HI.out; have := HKL.out; unfold wrap64; omega
       have hwa : ∀ j : Nat, j ≤ recK P.length → wrap64 (at_ + (j : Int)) = at_ + j := fun j hj => by have h1 := HC.out.2.2.2.1; have h2 := HC.out.2.2.2.2; have h3 := H0.out; unfold wrap64; omega
       have HW1 := Aside0.mk hw1
       have HWA := Aside0.mk hwa
       clear hw1 hwa
       by_cases ci : i + 1 < recK P.length
       ·have cib : decide (wrap64 ((i : Int) + 1) < (recK P.length : Int)) = true := decide_eq_true (by rw [HW1.out]; omega)
        have CI := Aside0.mk ci
        clear ci
        go_wp2_with fail
        go_still_tail 8, (by kernel_rfl)
        change wpStill _ _ wr.drew (fun a' => wpList _ _ _ _ a' wr.drew) _ _
        replace HD := Aside0.mk (HD.out.below (below_drew (Below.refl _ _)))
        replace K8 := Aside0.mk (blk_drew K8.out)
        replace HN := Aside0.mk (Kd.N_drew HN.out)
        generalize wr.drew = W at *
        obtain ⟨z0, z1, z2, z3, y0, y1, y2, y3⟩ := blk_cells4 HD.out.box
        have p5 : (0 ≤ (i : Int)) := by omega
        have q5 : (i : Int) < ((secsOf crcF seq P).length : Int) := by have := HSL.out; have := HI.out; omega
        obtain ⟨ad, Ax, cx, e801, hx, hlx, hcx⟩ := at_L2 (Kd.N_reads' HN.out).2.2 (i : Int) p5 q5
        cases e801
        rw [secs_rd (by have := HI.out; omega)] at hx hlx hcx
        rw [Int.toNat_natCast] at hx
        have HX := Aside0.mk hcx
        have HLX := Aside0.mk hlx
        clear hcx hlx
        replace p5 := eq_true p5
        replace q5 := eq_true q5
        repeat still_step
        refine wpStill_nil ?_
        go_wp2_with fail
        rw [HWA.out i (by have := HI.out; omega)]
        obtain ⟨kd, hkd⟩ := (specWrite_ev q.1 q.2.1 q.2.2.1 q.2.2.2 (at_ + i) (wrS seq P i) HOQ.out.1 HOQ.out.2 (by rw [wrS_len]; omega)).rounds
        obtain ⟨q', hq'⟩ : ∃ q', q' = dkW q (at_ + i) (wrS seq P i) := ⟨_, rfl⟩
        refine (spec_DiskWrite.calls kd A c q.1 B d q.2.1 q.2.2.1 q.2.2.2 (at_ + i) Ax cx (wrS seq P i) q'.1 q'.2.1 q'.2.2.1 q'.2.2.2 W HD.out.c0 HD.out.n0 HD.out.c1 HD.out.n1 HX.out HLX.out (by rw [hkd, hq']; rfl)).mono ?_
        have HQ2 := Aside0.mk hq'
        clear hkd hq'
        rintro e W9 ⟨v0, v1, rfl, hR, hS, gb⟩
        obtain ⟨A', c', ea⟩ := Kd.R_slice hR
        obtain ⟨B', d', eb⟩ := Kd.S_slice hS
        subst ea
        subst eb
        have hgl := blk_lt K8.out
        have K9 := Aside0.mk (HD.out.below gb).box
        have n0 := Aside0.mk (HD.out.put (r3 := q'.2.2.1) (r4 := q'.2.2.2) gb hR hS)
        have n1 := Aside0.mk (blk_far (blk_far (blk_far (blk_far (blk_below K8.out gb) (p := ⟨g, 0, none⟩) (Nat.succ_ne_self g) (.slice A' q'.1.length c')) (p := ⟨g, 1, none⟩) (Nat.succ_ne_self g) (.slice B' q'.2.1.length d')) (p := ⟨g, 2, none⟩) (Nat.succ_ne_self g) (.int .i64 q'.2.2.1)) (p := ⟨g, 3, none⟩) (Nat.succ_ne_self g) (.bool q'.2.2.2))
        have n2 := Aside0.mk (Kd.N_far (p := ⟨g, 3, none⟩) (Kd.N_far (p := ⟨g, 2, none⟩) (Kd.N_far (p := ⟨g, 1, none⟩) (Kd.N_far (p := ⟨g, 0, none⟩) (Kd.N_below HN.out gb) (fun _ h => h) (.slice A' q'.1.length c')) (fun _ h => h) (.slice B' q'.2.1.length d')) (fun _ h => h) (.int .i64 q'.2.2.1)) (fun _ h => h) (.bool q'.2.2.2))
        clear HD K8 HN z0 z1 z2 z3 y0 y1 y2 y3 hR hS gb hgl hx p5 q5
        obtain ⟨z0, z1, z2, z3, y0, y1, y2, y3⟩ := blk_cells4 K9.out
        have yl := blk_lt K9.out
        go_wp2_with fail
        go_roundg m
        case measure => omega
        case rel => exact ⟨i + 1, q', A', B', c', d', by rw [HW1.out], ⟨by rw [HQ2.out, HQ.out]; rfl⟩, ⟨by have := HI.out; have := CI.out; omega⟩, n0, n1, n2⟩
       ·have cib : decide (wrap64 ((i : Int) + 1) < (recK P.length : Int)) = false := decide_eq_false (by rw [HW1.out]; omega)
        have hiK : i + 1 = recK P.length := by have := HI.out; omega
        have hM2 : mWR l0 l1 a2 a3 at_ seq P = dkS (dkW (if 1 < recK P.length then dkS q else q) (at_ + i) (wrS seq P i)) := by
         rw [HM.out]
         unfold wrAll
         rw [show recK P.length - 1 = i by omega, ← HQ.out]
        have hk1 : wrap64 ((recK P.length : Int) - 1) = i := by have := HKL.out; unfold wrap64; omega
        have hk2 : wrap64 (wrap64 (at_ + (recK P.length : Int)) - 1) = at_ + i := by
         rw [HWA.out _ (Nat.le_refl _)]
         have h1 := HC.out.2.2.2.1
         have h2 := HC.out.2.2.2.2
         have h3 := H0.out
         unfold wrap64
         omega
        have HM2 := Aside0.mk hM2
        have HK1 := Aside0.mk hk1
        have HK2 := Aside0.mk hk2
        have HIK := Aside0.mk hiK
        clear ci hiK hM2 hk1 hk2
        obtain ⟨z0, z1, z2, z3, y0, y1, y2, y3⟩ := blk_cells4 HD.out.box
        have yl := blk_lt HD.out.box
        by_cases c1_ : 1 < recK P.length
        ·have c1b : decide ((1 : Int) < (recK P.length : Int)) = true := decide_eq_true (by omega)
         have HM3 := Aside0.mk (show mWR l0 l1 a2 a3 at_ seq P = dkS (dkW (dkS q) (at_ + i) (wrS seq P i)) by rw [HM2.out, if_pos c1_])
         clear c1_
         go_wp2_with fail
         obtain ⟨kd, hkd⟩ := (specSync_ev q.1 q.2.1 q.2.2.1 q.2.2.2 HOQ.out.1 HOQ.out.2).rounds
         obtain ⟨q', hq'⟩ : ∃ q', q' = dkS q := ⟨_, rfl⟩
         refine (spec_DiskSync.calls kd A c q.1 B d q.2.1 q.2.2.1 q.2.2.2 q'.1 q'.2.1 q'.2.2.1 q'.2.2.2 _ HD.out.c0 HD.out.n0 HD.out.c1 HD.out.n1 (by rw [hkd, hq']; rfl)).mono ?_
         rw [← hq'] at HM3
         replace HOQ := Aside0.mk (show okQ q' by rw [hq']; exact dkS_ok HOQ.out)
         clear hkd hq'
         rintro e W9 ⟨v0, v1, rfl, hR, hS, gb⟩
         obtain ⟨A', c', ea⟩ := Kd.R_slice hR
         obtain ⟨B', d', eb⟩ := Kd.S_slice hS
         subst ea
         subst eb
         have K9 := Aside0.mk (HD.out.below gb).box
         have n0 := Aside0.mk (HD.out.put (r3 := q'.2.2.1) (r4 := q'.2.2.2) gb hR hS)
         have n1 := Aside0.mk (blk_far (blk_far (blk_far (blk_far (blk_below K8.out gb) (p := ⟨g, 0, none⟩) (Nat.succ_ne_self g) (.slice A' q'.1.length c')) (p := ⟨g, 1, none⟩) (Nat.succ_ne_self g) (.slice B' q'.2.1.length d')) (p := ⟨g, 2, none⟩) (Nat.succ_ne_self g) (.int .i64 q'.2.2.1)) (p := ⟨g, 3, none⟩) (Nat.succ_ne_self g) (.bool q'.2.2.2))
         have n2 := Aside0.mk (Kd.N_far (p := ⟨g, 3, none⟩) (Kd.N_far (p := ⟨g, 2, none⟩) (Kd.N_far (p := ⟨g, 1, none⟩) (Kd.N_far (p := ⟨g, 0, none⟩) (Kd.N_below HN.out gb) (fun _ h => h) (.slice A' q'.1.length c')) (fun _ h => h) (.slice B' q'.2.1.length d')) (fun _ h => h) (.int .i64 q'.2.2.1)) (fun _ h => h) (.bool q'.2.2.2))
         clear HD K8 HN z0 z1 z2 z3 y0 y1 y2 y3 yl hR hS gb
         obtain ⟨z0, z1, z2, z3, y0, y1, y2, y3⟩ := blk_cells4 K9.out
         have yl := blk_lt K9.out
         go_wp2_with fail
         clear z0 z1 z2 z3 y0 y1 y2 y3 yl K9
         generalize ((((W9.setCell ⟨g, 0, none⟩ (.slice A' q'.1.length c')).setCell ⟨g, 1, none⟩ (.slice B' q'.2.1.length d')).setCell ⟨g, 2, none⟩ (.int .i64 q'.2.2.1)).setCell ⟨g, 3, none⟩ (.bool q'.2.2.2)) = Wb at *
         go_still_tail 10, (by kernel_rfl)
         change wpStill _ _ Wb.drew (fun a' => wpList _ _ _ _ a' Wb.drew) _ _
         have HD := Aside0.mk (n0.out.below (below_drew (Below.refl _ _)))
         have K8 := Aside0.mk (blk_drew n1.out)
         have HN := Aside0.mk (Kd.N_drew n2.out)
         clear n0 n1 n2
         generalize Wb.drew = W at *
         obtain ⟨z0, z1, z2, z3, y0, y1, y2, y3⟩ := blk_cells4 HD.out.box
         have p5 : (0 ≤ (i : Int)) := by omega
         have q5 : (i : Int) < ((secsOf crcF seq P).length : Int) := by have := HSL.out; have := HIK.out; omega
         obtain ⟨ad, Ax, cx, e801, hx, hlx, hcx⟩ := at_L2 (Kd.N_reads' HN.out).2.2 (i : Int) p5 q5
         cases e801
         rw [secs_rd (by have := HIK.out; omega)] at hx hlx hcx
         rw [Int.toNat_natCast] at hx
         have HX := Aside0.mk hcx
         have HLX := Aside0.mk hlx
         clear hcx hlx
         replace p5 := eq_true p5
         replace q5 := eq_true q5
         repeat still_step
         simp only [i64_w]
         rw [HK1.out, HK2.out]
         repeat still_step
         refine wpStill_nil ?_
         go_wp2_with fail
         obtain ⟨kd, hkd⟩ := (specWrite_ev q'.1 q'.2.1 q'.2.2.1 q'.2.2.2 (at_ + i) (wrS seq P i) HOQ.out.1 HOQ.out.2 (by rw [wrS_len]; omega)).rounds
         obtain ⟨q2, hq2⟩ : ∃ q2, q2 = dkW q' (at_ + i) (wrS seq P i) := ⟨_, rfl⟩
         refine (spec_DiskWrite.calls kd A' c' q'.1 B' d' q'.2.1 q'.2.2.1 q'.2.2.2 (at_ + i) Ax cx (wrS seq P i) q2.1 q2.2.1 q2.2.2.1 q2.2.2.2 W HD.out.c0 HD.out.n0 HD.out.c1 HD.out.n1 HX.out HLX.out (by rw [hkd, hq2]; rfl)).mono ?_
         rw [← hq2] at HM3
         replace HOQ := Aside0.mk (show okQ q2 by rw [hq2]; exact dkW_ok HOQ.out _ _)
         clear hkd hq2
         rintro e W10 ⟨v0, v1, rfl, hR, hS, gb⟩
         obtain ⟨A2, c2, ea⟩ := Kd.R_slice hR
         obtain ⟨B2, d2, eb⟩ := Kd.S_slice hS
         subst ea
         subst eb
         replace HD := Aside0.mk (HD.out.below gb)
         replace K8 := Aside0.mk (blk_below K8.out gb)
         clear HN z0 z1 z2 z3 y0 y1 y2 y3 gb hx p5 q5
         obtain ⟨z0, z1, z2, z3, y0, y1, y2, y3⟩ := blk_cells4 HD.out.box
         go_wp2_with fail
         obtain ⟨ke, hke⟩ := (specSync_ev q2.1 q2.2.1 q2.2.2.1 q2.2.2.2 HOQ.out.1 HOQ.out.2).rounds
         obtain ⟨q3, hq3⟩ : ∃ q3, q3 = dkS q2 := ⟨_, rfl⟩
         refine (spec_DiskSync.calls ke A2 c2 q2.1 B2 d2 q2.2.1 q2.2.2.1 q2.2.2.2 q3.1 q3.2.1 q3.2.2.1 q3.2.2.2 W10 (Kd.R_reads' hR).2.2 (Kd.R_reads' hR).2.1 (Kd.R_reads' (Kd.S_R hS)).2.2 (Kd.R_reads' (Kd.S_R hS)).2.1 (by rw [hke, hq3]; rfl)).mono ?_
         rw [← hq3] at HM3
         clear hke hq3 hR hS
         rintro e W11 ⟨v0, v1, rfl, hR, hS, gb⟩
         obtain ⟨A, c, ea⟩ := Kd.R_slice hR
         obtain ⟨B, d, eb⟩ := Kd.S_slice hS
         obtain ⟨f1, f2, f3, f4, f5⟩ := fin_disk (r3 := q3.2.2.1) (r4 := q3.2.2.2) HD.out.b (Nat.le_succ_of_le HD.out.le) K8.out hR hS gb
         have F2 := Aside0.mk f2
         have F3 := Aside0.mk f3
         have F4 := Aside0.mk f4
         have F5 := Aside0.mk f5
         clear z0 z1 z2 z3 y0 y1 y2 y3
         obtain ⟨x0, x1, x2, x3, u0, u1, u2, u3⟩ := blk_cells4 f1
         have ul := blk_lt f1
         clear f1 f2 f3 f4 f5 hR hS gb
         generalize q3.1.length = n1 at ea
         generalize q3.2.1.length = n2 at eb
         subst ea
         subst eb
         go_wp2_with fail
         refine bodyPost_ret (results_cell_row rfl _ _ (g + 1) 25 _ (0, 0) _ rfl F2.out hu25 rfl (by kernel_rfl)) rfl ?_
         rw [HM3.out]
         exact ⟨_, _, rfl, F3.out, F4.out, F5.out⟩
        ·have c1b : decide ((1 : Int) < (recK P.length : Int)) = false := decide_eq_false (by omega)
         have HM3 := Aside0.mk (show mWR l0 l1 a2 a3 at_ seq P = dkS (dkW q (at_ + i) (wrS seq P i)) by rw [HM2.out, if_neg c1_])
         clear c1_
         go_wp2_with fail
         clear z0 z1 z2 z3 y0 y1 y2 y3 yl
         go_still_tail 10, (by kernel_rfl)
         change wpStill _ _ wr.drew (fun a' => wpList _ _ _ _ a' wr.drew) _ _
         replace HD := Aside0.mk (HD.out.below (below_drew (Below.refl _ _)))
         replace K8 := Aside0.mk (blk_drew K8.out)
         replace HN := Aside0.mk (Kd.N_drew HN.out)
         generalize wr.drew = W at *
         obtain ⟨z0, z1, z2, z3, y0, y1, y2, y3⟩ := blk_cells4 HD.out.box
         have p5 : (0 ≤ (i : Int)) := by omega
         have q5 : (i : Int) < ((secsOf crcF seq P).length : Int) := by have := HSL.out; have := HIK.out; omega
         obtain ⟨ad, Ax, cx, e801, hx, hlx, hcx⟩ := at_L2 (Kd.N_reads' HN.out).2.2 (i : Int) p5 q5
         cases e801
         rw [secs_rd (by have := HIK.out; omega)] at hx hlx hcx
         rw [Int.toNat_natCast] at hx
         have HX := Aside0.mk hcx
         have HLX := Aside0.mk hlx
         clear hcx hlx
         replace p5 := eq_true p5
         replace q5 := eq_true q5
         repeat still_step
         simp only [i64_w]
         rw [HK1.out, HK2.out]
         repeat still_step
         refine wpStill_nil ?_
         go_wp2_with fail
         obtain ⟨kd, hkd⟩ := (specWrite_ev q.1 q.2.1 q.2.2.1 q.2.2.2 (at_ + i) (wrS seq P i) HOQ.out.1 HOQ.out.2 (by rw [wrS_len]; omega)).rounds
         obtain ⟨q2, hq2⟩ : ∃ q2, q2 = dkW q (at_ + i) (wrS seq P i) := ⟨_, rfl⟩
         refine (spec_DiskWrite.calls kd A c q.1 B d q.2.1 q.2.2.1 q.2.2.2 (at_ + i) Ax cx (wrS seq P i) q2.1 q2.2.1 q2.2.2.1 q2.2.2.2 W HD.out.c0 HD.out.n0 HD.out.c1 HD.out.n1 HX.out HLX.out (by rw [hkd, hq2]; rfl)).mono ?_
         rw [← hq2] at HM3
         replace HOQ := Aside0.mk (show okQ q2 by rw [hq2]; exact dkW_ok HOQ.out _ _)
         clear hkd hq2
         rintro e W10 ⟨v0, v1, rfl, hR, hS, gb⟩
         obtain ⟨A2, c2, ea⟩ := Kd.R_slice hR
         obtain ⟨B2, d2, eb⟩ := Kd.S_slice hS
         subst ea
         subst eb
         replace HD := Aside0.mk (HD.out.below gb)
         replace K8 := Aside0.mk (blk_below K8.out gb)
         clear HN z0 z1 z2 z3 y0 y1 y2 y3 gb hx p5 q5
         obtain ⟨z0, z1, z2, z3, y0, y1, y2, y3⟩ := blk_cells4 HD.out.box
         go_wp2_with fail
         obtain ⟨ke, hke⟩ := (specSync_ev q2.1 q2.2.1 q2.2.2.1 q2.2.2.2 HOQ.out.1 HOQ.out.2).rounds
         obtain ⟨q3, hq3⟩ : ∃ q3, q3 = dkS q2 := ⟨_, rfl⟩
         refine (spec_DiskSync.calls ke A2 c2 q2.1 B2 d2 q2.2.1 q2.2.2.1 q2.2.2.2 q3.1 q3.2.1 q3.2.2.1 q3.2.2.2 W10 (Kd.R_reads' hR).2.2 (Kd.R_reads' hR).2.1 (Kd.R_reads' (Kd.S_R hS)).2.2 (Kd.R_reads' (Kd.S_R hS)).2.1 (by rw [hke, hq3]; rfl)).mono ?_
         rw [← hq3] at HM3
         clear hke hq3 hR hS
         rintro e W11 ⟨v0, v1, rfl, hR, hS, gb⟩
         obtain ⟨A, c, ea⟩ := Kd.R_slice hR
         obtain ⟨B, d, eb⟩ := Kd.S_slice hS
         obtain ⟨f1, f2, f3, f4, f5⟩ := fin_disk (r3 := q3.2.2.1) (r4 := q3.2.2.2) HD.out.b (Nat.le_succ_of_le HD.out.le) K8.out hR hS gb
         have F2 := Aside0.mk f2
         have F3 := Aside0.mk f3
         have F4 := Aside0.mk f4
         have F5 := Aside0.mk f5
         clear z0 z1 z2 z3 y0 y1 y2 y3
         obtain ⟨x0, x1, x2, x3, u0, u1, u2, u3⟩ := blk_cells4 f1
         have ul := blk_lt f1
         clear f1 f2 f3 f4 f5 hR hS gb
         generalize q3.1.length = n1 at ea
         generalize q3.2.1.length = n2 at eb
         subst ea
         subst eb
         go_wp2_with fail
         refine bodyPost_ret (results_cell_row rfl _ _ (g + 1) 25 _ (0, 0) _ rfl F2.out hu25 rfl (by kernel_rfl)) rfl ?_
         rw [HM3.out]
         exact ⟨_, _, rfl, F3.out, F4.out, F5.out⟩
theorem spec_WriteRec.calls (k : Nat) (A0_0 : Option Addr) (c0_0 : Nat) (l0_0 : List Int) (A0_1 : Option Addr) (c0_1 : Nat) (l0_1 : List (S79)) (a0_2 : Int) (a0_3 : Bool) (a1 : Int) (a2 : Int) (A3 : Option Addr) (c3 : Nat) (l3 : List Int) (r1 : List Int) (r2 : List (S79)) (r3 : Int) (r4 : Bool) (w : World) (hr0_0 : Kd.C (Kd.int .u8) w A0_0 l0_0.length l0_0) (hc0_0 : l0_0.length ≤ c0_0) (hr0_1 : Kd.C k79 w A0_1 l0_1.length l0_1) (hc0_1 : l0_1.length ≤ c0_1) (hr3 : Kd.C (Kd.int .u8) w A3 l3.length l3) (hc3 : l3.length ≤ c3) (h : m_WriteRec.f k l0_0 l0_1 a0_2 a0_3 a1 a2 l3 = some (r1, r2, r3, r4)) :
  Calls Try.prog 35 #[.agg #[.slice A0_0 l0_0.length c0_0, .slice A0_1 l0_1.length c0_1, .int .i64 a0_2, .bool a0_3], .int .i64 a1, .int .i64 a2, .slice A3 l3.length c3] w fun e w' => ∃ v0_ v1_ : Value, e = .returned (.agg #[v0_, v1_, .int .i64 r3, .bool r4]) ∧ Kd.R (Kd.int .u8) 5 w' w.heap.size (fun _ => True) v0_ r1 ∧ Kd.S k79 79 w' w.heap.size (fun k_ => some k_ ≠ (v0_ : Value).ownBlock) v1_ r2 ∧ Below w.heap.size w w' := by
 unfold m_WriteRec.f at h
 split at h
 case isFalse => cases h
 next hL =>
 have := spec_WriteRec_any A0_0 c0_0 l0_0 A0_1 c0_1 l0_1 a0_2 a0_3 a1 a2 A3 c3 l3 w hr0_0 hc0_0 hr0_1 hc0_1 hr3 hc3 hL.1 ⟨hL.2.1, fun x hx => by have := List.all_eq_true.1 hL.2.2.1 x hx; simpa using this⟩ hL.2.2.2
 rw [Option.some.inj h] at this
 exact this

/-! ### impl_RecSectors: function 84 -/
def impl_RecSectors.f (a0 : Int) : Option (Int) := if a0 < 0 then (some 0) else (if a0 > 30000 then (some 0) else (some (mx 1 (wrap64 (Int.tdiv (wrap64 ((wrap64 (a0 + 48)) - 1)) 48)))))
set_option maxHeartbeats 8000000 in
set_option maxRecDepth 100000 in
theorem impl_RecSectors.calls (a0 : Int) (r : Int) (w : World) (h : impl_RecSectors.f a0 = some r) :
  Calls Try.prog 84 #[.int .i64 a0] w fun e w' => e = .returned (.int .i64 r) ∧ Below w.heap.size w w' := by
 have HB := Aside0.mk (Below.refl w.heap.size w)
 have H : (if a0 < 0 then (some 0) else (if a0 > 30000 then (some 0) else (some (mx 1 (wrap64 (Int.tdiv (wrap64 ((wrap64 (a0 + 48)) - 1)) 48)))))) = some r := h
 clear h
 by_cases c2 : a0 < 0
 ·rw [if_pos c2] at H
  have c2b0 : decide (a0 < 0) = true := decide_eq_true c2
  clear c2
  obtain rfl := Option.some.inj H
  go_enter Try.func84, Try.ntmps84
  go_wp2
  go_ret
  exact ⟨by first | rfl | (simp [errW_none, errW_some] <;> rfl) | (simp [*, errW_none, errW_some] <;> rfl), by repeat (first | (with_reducible first | exact HB.out | apply below_alloc | apply pw_below_drewN | apply below_drew1) | exact HB.out)⟩
 ·rw [if_neg c2] at H
  have c2b0 : decide (a0 < 0) = false := decide_eq_false c2
  clear c2
  by_cases c3 : a0 > 30000
  ·rw [if_pos c3] at H
   have c3b0 : decide (30000 < a0) = true := decide_eq_true c3
   clear c3
   obtain rfl := Option.some.inj H
   go_enter Try.func84, Try.ntmps84
   go_wp2
   go_ret
   exact ⟨by first | rfl | (simp [errW_none, errW_some] <;> rfl) | (simp [*, errW_none, errW_some] <;> rfl), by repeat (first | (with_reducible first | exact HB.out | apply below_alloc | apply pw_below_drewN | apply below_drew1) | exact HB.out)⟩
  ·rw [if_neg c3] at H
   have c3b0 : decide (30000 < a0) = false := decide_eq_false c3
   clear c3
   obtain ⟨ji4, hji4⟩ : ∃ j_ : Int, (mx 1 (wrap64 (Int.tdiv (wrap64 ((wrap64 (a0 + 48)) - 1)) 48))) = j_ := ⟨_, rfl⟩
   replace H : (some ji4) = some r := by first | (rw [hji4] at H; exact H) | (simp only [hji4] at H ⊢; exact H)
   (try (have hji4l : 1 ≤ ji4 := by (rw [← hji4]; unfold mx; (repeat' split) <;> omega)))
   (try (have hji4m : 0 ≤ ji4 := by omega))
   have hji4_ : (if 1 < (wrap64 (Int.tdiv (wrap64 ((wrap64 (a0 + 48)) - 1)) 48)) then (wrap64 (Int.tdiv (wrap64 ((wrap64 (a0 + 48)) - 1)) 48)) else 1) = ji4 := hji4
   obtain rfl := Option.some.inj H
   go_enter Try.func84, Try.ntmps84
   go_wp2
   go_ret
   exact ⟨by first | rfl | (simp [errW_none, errW_some] <;> rfl) | (simp only [← hji4]; first | rfl | (simp [errW_none, errW_some] <;> rfl)) | (simp [*, errW_none, errW_some] <;> rfl), by repeat (first | (with_reducible first | exact HB.out | apply below_alloc | apply pw_below_drewN | apply below_drew1) | exact HB.out)⟩

/-! ### zL_wimpl: a text by hand -/
theorem fin_part {A A' : Option Addr} {c c' i n : Nat} {P : List Int} {W W' : World} (hn : n = (pieceOf P i).length) (hA : A' = if c = 48 * i then A else A.map (·.add (48 * i * (Kd.int .u8).sz))) (hc : (pieceOf P i).length ≤ c')
  (hm : Kd.C (Kd.int .u8) W' (if c = 48 * i then A else A.map (·.add (48 * i * (Kd.int .u8).sz))) (pieceOf P i).length (pieceOf P i)) (hb : Below W.heap.size W W') :
  ∃ (A'' : Option Addr) (c'' : Nat), Ending.returned (.slice A' n c') = .returned (.slice A'' (pieceOf P i).length c'') ∧ Kd.C (Kd.int .u8) W' A'' (pieceOf P i).length (pieceOf P i) ∧ (pieceOf P i).length ≤ c'' ∧ Below W.heap.size W W' := by
 subst hn hA
 exact ⟨_, _, rfl, hm, hc, hb⟩
set_option maxHeartbeats 4000000 in
set_option maxRecDepth 100000 in
theorem part_any (A : Option Addr) (c : Nat) (P : List Int) (i : Nat) (W : World) (hC : Kd.C (Kd.int .u8) W A P.length P) (hc : P.length ≤ c) (hi : i < recK P.length) (hP : P.length ≤ 30000) :
  Calls Try.prog 118 #[.slice A P.length c, .int .i64 i] W fun e w' => ∃ (A' : Option Addr) (c' : Nat), e = .returned (.slice A' (pieceOf P i).length c') ∧ Kd.C (Kd.int .u8) w' A' (pieceOf P i).length (pieceOf P i) ∧ (pieceOf P i).length ≤ c' ∧ Below W.heap.size W w' := by
 have hiK : 48 * i ≤ P.length := by
  rw [recK] at hi
  by_cases c : P.length = 0
  ·rw [if_pos c] at hi; omega
  ·rw [if_neg c] at hi; omega
 obtain ⟨hh, hhe⟩ : ∃ hh : Nat, hh = min (48 * (i + 1)) P.length := ⟨_, rfl⟩
 have hm := Kd.C_mid (lo := 48 * i) (hi := hh) hC (by omega) (by omega) hc
 have hp : (P.take hh).drop (48 * i) = pieceOf P i := by
  unfold pieceOf
  rw [List.drop_take, hhe]
  by_cases h : 48 * (i + 1) ≤ P.length
  ·rw [Nat.min_eq_left h, show 48 * (i + 1) - 48 * i = 48 by omega]
  ·rw [Nat.min_eq_right (by omega), List.take_of_length_le (by simp), List.take_of_length_le (by simp; omega)]
 rw [hp] at hm
 have hl : (pieceOf P i).length = hh - 48 * i := by rw [← hp]; simp; omega
 have e1 : wrap64 ((i : Int) * 48) = ((48 * i : Nat) : Int) := by unfold wrap64; omega
 have e2 : wrap64 ((i : Int) + 1) = ((i + 1 : Nat) : Int) := by unfold wrap64; omega
 have e3 : wrap64 (((i + 1 : Nat) : Int) * 48) = ((48 * (i + 1) : Nat) : Int) := by unfold wrap64; omega
 have e4 : ((48 * i : Nat) : Int) ≤ ((48 * (i + 1) : Nat) : Int) := by omega
 have HM := Aside0.mk hm
 have HL := Aside0.mk hl
 have HH := Aside0.mk hhe
 clear hm hl hhe hp
 by_cases ce : c = 48 * i
 ·have CE := Aside0.mk ce
  go_enter Try.func118, Try.ntmps118
  go_wp2_with fail
  all_goals
   go_ret
   exact fin_part (by have := HL.out; have := HH.out; omega) (by rw [if_pos CE.out]) (by have := CE.out; have := HL.out; have := HH.out; omega) HM.out (Below.refl _ _)
 ·have CE := Aside0.mk ce
  go_enter Try.func118, Try.ntmps118
  go_wp2_with fail
  all_goals
   go_ret
   exact fin_part (by have := HL.out; have := HH.out; omega) (by rw [if_neg CE.out, Nat.mul_comm i 48, show 48 * i * (Kd.int .u8).sz = 48 * i from Nat.mul_one _]) (by have := CE.out; have := HL.out; have := HH.out; omega) HM.out (Below.refl _ _)
theorem vD_snoc {l0 : List Int} {l1 : List S79} {a2 : Int} (h : vD l0 l1 a2 = true) {s : Int} {xs : List Int} (hs : inD l0 s = true) (hx : xs.length = 64) (hl : l1.length < 2000) : vD l0 (l1 ++ [⟨s, xs⟩]) (fuelD a2) = true := by
 unfold vD at h ⊢
 unfold inD at hs
 simp only [Bool.and_eq_true, decide_eq_true_eq] at h hs ⊢
 obtain ⟨⟨⟨⟨⟨⟨h1, h2⟩, h3⟩, h4⟩, h5⟩, h6⟩, h7⟩ := h
 refine ⟨⟨⟨⟨⟨⟨h1, h2⟩, h3⟩, by rw [List.length_append]; simp; omega⟩, by unfold fuelD; split <;> omega⟩, by unfold fuelD; split <;> omega⟩, ?_⟩
 rw [List.all_append, h7]
 simp [pendOk, hx]
 omega
theorem vD_sync {l0 : List Int} {l1 : List S79} {a2 : Int} (h : vD l0 l1 a2 = true) : vD (syF l0 l1 l1.length) [] (fuelD a2) = true := by
 have hf := vD_facts h
 have hl := syF_len l0 l1 hf.2.2.2.2.2.2 _ (Nat.le_refl _)
 unfold vD at h ⊢
 simp only [Bool.and_eq_true, decide_eq_true_eq] at h ⊢
 obtain ⟨⟨⟨⟨⟨⟨h1, h2⟩, h3⟩, h4⟩, h5⟩, h6⟩, h7⟩ := h
 rw [hl]
 exact ⟨⟨⟨⟨⟨⟨h1, h2⟩, h3⟩, by simp⟩, by unfold fuelD; split <;> omega⟩, by unfold fuelD; split <;> omega⟩, by simp⟩
/-- A disk that lives: what a write and a sync make of it. -/
structure Lives (q : List Int × List S79 × Int × Bool) (n : Nat) : Prop where
 v : vD q.1 q.2.1 q.2.2.1 = true
 a : q.2.2.2 = false
 n : q.2.1.length ≤ n
theorem Lives.w0 {q : List Int × List S79 × Int × Bool} {n : Nat} (h : Lives q n) (hn : n < 2000) {s : Int} {xs : List Int} (hs : inD q.1 s = true) (hx : xs.length = 64) (hf : q.2.2.1 = 0) : dkW q s xs = (q.1, q.2.1, 0, true) := by
 have := h.n
 unfold dkW dWrite
 rw [if_pos ⟨h.v, h.a, hs, hx, by omega⟩, if_pos hf]
theorem Lives.w1 {q : List Int × List S79 × Int × Bool} {n : Nat} (h : Lives q n) (hn : n < 2000) {s : Int} {xs : List Int} (hs : inD q.1 s = true) (hx : xs.length = 64) (hf : ¬ q.2.2.1 = 0) : dkW q s xs = (q.1, q.2.1 ++ [⟨s, xs⟩], fuelD q.2.2.1, false) ∧ Lives (dkW q s xs) (n + 1) ∧ (dkW q s xs).1.length = q.1.length := by
 have := h.n
 have e : dkW q s xs = (q.1, q.2.1 ++ [⟨s, xs⟩], fuelD q.2.2.1, false) := by
  unfold dkW dWrite
  rw [if_pos ⟨h.v, h.a, hs, hx, by omega⟩, if_neg hf, h.a]
 refine ⟨e, ?_, by rw [e]⟩
 rw [e]
 exact ⟨vD_snoc h.v hs hx (by omega), rfl, by rw [List.length_append]; simp; omega⟩
theorem Lives.s0 {q : List Int × List S79 × Int × Bool} {n : Nat} (h : Lives q n) (hf : q.2.2.1 = 0) : dkS q = (q.1, q.2.1, 0, true) := by
 unfold dkS dSync
 rw [if_pos (by rw [h.v, h.a]; rfl), if_pos hf]
theorem Lives.s1 {q : List Int × List S79 × Int × Bool} {n : Nat} (h : Lives q n) (hf : ¬ q.2.2.1 = 0) : dkS q = (syF q.1 q.2.1 q.2.1.length, [], fuelD q.2.2.1, false) ∧ Lives (dkS q) 0 ∧ (dkS q).1.length = q.1.length := by
 have e : dkS q = (syF q.1 q.2.1 q.2.1.length, [], fuelD q.2.2.1, false) := by
  unfold dkS dSync
  rw [if_pos (by rw [h.v, h.a]; rfl), if_neg hf, h.a]
 refine ⟨e, ?_, by rw [e]; exact syF_len _ _ (vD_facts h.v).2.2.2.2.2.2 _ (Nat.le_refl _)⟩
 rw [e]
 exact ⟨vD_sync h.v, rfl, by simp⟩
theorem inD_len {l l' : List Int} {s : Int} (h : inD l s = true) (e : l'.length = l.length) : inD l' s = true := by
 unfold inD at h ⊢
 rw [e]
 exact h
section
variable {lo b : Nat} {W W1 W2 : World} {l0 l0' : List Int} {l1 l1' : List S79} {a2 a2' : Int} {a3 a3' : Bool}
theorem powX_self (h : PowX lo b W l0 l1 a2 a3 W1) : PowX lo b W1 l0 l1 a2 a3 W1 := by
 obtain ⟨A, B, n, c, m, d, hb, hR, hS, hB⟩ := h
 exact ⟨A, B, n, c, m, d, hb, hR, hS, ⟨rfl, rfl, rfl, Nat.le_refl _, fun _ _ => rfl⟩⟩
theorem powX_b (h : PowX lo b W l0 l1 a2 a3 W1) : Below lo W W1 := by
 obtain ⟨A, B, n, c, m, d, hb, hR, hS, hB⟩ := h
 exact hB
theorem powX_trans (h1 : Below lo W W1) (h : PowX lo b W1 l0 l1 a2 a3 W2) : PowX lo b W l0 l1 a2 a3 W2 := by
 obtain ⟨A, B, n, c, m, d, hb, hR, hS, hB⟩ := h
 exact ⟨A, B, n, c, m, d, hb, hR, hS, ⟨hB.os.trans h1.os, hB.tape.trans h1.tape, hB.output.trans h1.output, Nat.le_trans h1.size hB.size, fun k hk => (hB.block k hk).trans (h1.block k hk)⟩⟩
theorem powX_below (hlo : lo ≤ b) (h : PowX lo b W l0 l1 a2 a3 W1) (hb2 : Below W1.heap.size W1 W2) : PowX lo b W l0 l1 a2 a3 W2 := by
 obtain ⟨A, B, n, c, m, d, hb, hR, hS, hB⟩ := h
 have hl := blk_lt hb
 exact ⟨A, B, n, c, m, d, blk_below hb hb2, Kd.R_below hR hb2, Kd.S_below hS hb2, below_then hB (by omega) hb2⟩
end

/-! ### zL_wrec: a text by hand -/
theorem implRec_eq (n : Nat) : impl_RecSectors.f (n : Int) = some (recI n) := by
 unfold impl_RecSectors.f recI
 rw [if_neg (by omega)]
 by_cases h : n ≤ 30000
 ·rw [if_neg (by omega), if_pos h, show wrap64 ((n : Int) + 48) = n + 48 from by unfold wrap64; omega, show wrap64 ((n : Int) + 48 - 1) = n + 47 from by unfold wrap64; omega, Int.tdiv_eq_ediv_of_nonneg (by omega), show ((n : Int) + 47) / 48 = (((n + 47) / 48 : Nat) : Int) from by omega, show wrap64 (((n + 47) / 48 : Nat) : Int) = (((n + 47) / 48 : Nat) : Int) from by unfold wrap64; omega]
  unfold mx recK
  congr 1
  split <;> split <;> omega
 ·rw [if_pos (by omega), if_neg h]
theorem below_low {a lo : Nat} {w W W1 : World} (h : Below a w W) (ha : a ≤ lo) (hb : Below lo W W1) : Below a w W1 :=
 ⟨hb.os.trans h.os, hb.tape.trans h.tape, hb.output.trans h.output, Nat.le_trans h.size hb.size, fun k hk => (hb.block k (Nat.lt_of_lt_of_le hk ha)).trans (h.block k hk)⟩
/-- What record leaves. -/
def RecEnd (lo b : Nat) (W : World) (q : List Int × List S79 × Int × Bool) (e : Ending) (W' : World) : Prop :=
 e = (if q.2.2.2 = true then .panicked [{ v := .iface 125 (.agg #[]), recovered := false }] else .returned (.tuple #[])) ∧ PowX lo b W q.1 q.2.1 q.2.2.1 false W'
set_option maxHeartbeats 4000000 in
set_option maxRecDepth 100000 in
theorem record_any (lo b : Nat) (w1 W : World) (l0 : List Int) (l1 : List S79) (a2 at_ seq : Int) (A3 : Option Addr) (c3 : Nat) (P : List Int) (hlo : lo ≤ b) (hw : w1.heap.size ≤ lo) (hW : Below w1.heap.size w1 W) (hC : Kd.C (Kd.int .u8) w1 A3 P.length P) (hc : P.length ≤ c3)
  (hwr : wrC l0 l1 a2 at_ seq P) (hfit : l1.length + recK P.length ≤ 2000) (hX : PowX lo b W l0 l1 a2 false W) :
  Calls Try.prog 87 #[.pointer (some ⟨b, 0, none⟩), .int .i64 at_, .int .i64 seq, .slice A3 P.length c3] W fun e W' => RecEnd lo b W (wrAll at_ (wrS seq P) (recK P.length) (l0, l1, a2, false)) e W' := by
 obtain ⟨kc, hkc⟩ := rounds_all (F := fun i kc => cPiece kc seq (i : Int) (recK P.length) (pieceOf P i)) (v := fun i => wrS seq P i) (recK P.length) (fun i _ => cPiece_ev crcF_ok seq hwr.2.1 (i : Int) (recK P.length) (pieceOf P i) (pieceOf_len P i))
 have HPC := Aside0.mk (fun (i : Nat) (hi : i < recK P.length) => hkc kc i (Nat.le_refl _) hi)
 have HLO := Aside0.mk hlo
 have HW := Aside0.mk hw
 have HBW := Aside0.mk hW
 have HC := Aside0.mk hC
 have HC3 := Aside0.mk hc
 have HR := Aside0.mk hwr
 have HF := Aside0.mk hfit
 have HX := Aside0.mk hX
 have hK1 := recK_pos P.length
 have hK2 := recK_le P.length hwr.2.2.1
 have hrk : impl_RecSectors.f (P.length : Int) = some (recK P.length : Int) := by rw [implRec_eq]; unfold recI; rw [if_pos hwr.2.2.1]
 have hwa : ∀ j : Nat, j ≤ recK P.length → wrap64 (at_ + (j : Int)) = at_ + j := fun j hj => by have h1 := hwr.2.2.2.1; have h2 := hwr.2.2.2.2; have h3 := (vD_facts hwr.1).2.2.1; unfold wrap64; omega
 have hin : ∀ j : Nat, j < recK P.length → inD l0 (at_ + (j : Int)) = true := fun j hj => by have h1 := hwr.2.2.2.1; have h2 := hwr.2.2.2.2; unfold inD; rw [decide_eq_true (by omega), decide_eq_true (by omega)]; rfl
 have hwk : wrap64 ((recK P.length : Int) - 1) = ((recK P.length - 1 : Nat) : Int) := by unfold wrap64; omega
 have HRK := Aside0.mk hrk
 have HWA := Aside0.mk hwa
 have HIN := Aside0.mk hin
 have HWK := Aside0.mk hwk
 have HK1 := Aside0.mk hK1
 have HK2 := Aside0.mk hK2
 clear hkc hlo hw hW hC hc hwr hfit hX hrk hwa hin hwk hK1 hK2
 generalize hK : recK P.length = K at *
 have EK := Aside0.mk hK
 clear hK
 obtain ⟨mq, hmq⟩ : ∃ mq, mq = wrAll at_ (wrS seq P) K (l0, l1, a2, false) := ⟨_, rfl⟩
 rw [← hmq]
 have HMQ := Aside0.mk hmq
 clear hmq
 go_enter Try.func87, Try.ntmps87
 go_wp2_with fail
 refine (impl_RecSectors.calls _ _ _ HRK.out).mono ?_
 rintro e Wr ⟨rfl, hb⟩
 replace HX := Aside0.mk (powX_below HLO.out HX.out hb)
 clear hb
 go_wp2_with fail
 try simp only [i64_w]
 rw [HWK.out]
 go_loopg [15] K (fun kq v15 w' => ∃ (i : Nat) (q : List Int × List S79 × Int × Bool), v15 = .int .i64 i ∧ Aside0 (q = wrF at_ (wrS seq P) i (l0, l1, a2, false)) ∧ Aside0 (i + 1 ≤ K ∧ K ≤ kq + i) ∧ Aside0 (Lives q (l1.length + i)) ∧ Aside0 (q.1.length = l0.length) ∧ Aside0 (PowX lo b W q.1 q.2.1 q.2.2.1 false w'))
 case atStart => exact ⟨0, (l0, l1, a2, false), rfl, ⟨rfl⟩, ⟨HK1.out, by omega⟩, ⟨⟨HR.out.1, rfl, Nat.le_refl _⟩⟩, ⟨rfl⟩, HX⟩
 case round =>
  clear HX
  obtain ⟨i, q, rfl, HQ, HI, HLv, HLn, HX⟩ := hrel
  cases gk with
  | zero => exact absurd HI.out (by omega)
  | succ m =>
    by_cases ci : i < K - 1
    ·have cib : decide (i < K - 1) = true := decide_eq_true (by omega)
     have hik : i < K := by omega
     have HIK := Aside0.mk hik
     clear ci hik
     go_wp2_with fail
     refine (part_any A3 c3 P i wr (Kd.C_below HC.out (below_low HBW.out HW.out (powX_b HX.out))) HC3.out (by rw [EK.out]; exact HIK.out) HR.out.2.2.1).mono ?_
     rintro e Wa ⟨Ap, cp, rfl, hp, hcp, hb⟩
     replace HX := Aside0.mk (powX_below HLO.out HX.out hb)
     have HP := Aside0.mk hp
     have HCP := Aside0.mk hcp
     clear hp hcp hb
     go_wp2_with fail
     refine (impl_piece_arr kc seq i K Ap cp (pieceOf P i) (wrS seq P i) Wa HP.out HCP.out (pieceOf_len P i) (HPC.out i HIK.out) (fun l c hl h => crc_bd kc l c (by omega) h)).mono ?_
     rintro e Wb ⟨rfl, _, hb⟩
     replace HX := Aside0.mk (powX_below HLO.out HX.out hb)
     clear hb HP HCP
     go_wp2_with fail
     rw [HWA.out i (Nat.le_of_lt HIK.out)]
     have hin := inD_len (HIN.out i HIK.out) HLn.out
     have HIN2 := Aside0.mk hin
     clear hin
     by_cases cf : q.2.2.1 = 0
     ·have hX := powX_self HX.out
      rw [cf] at hX
      have hd := HLv.out.w0 (by have := HF.out; have := HIK.out; omega) HIN2.out (wrS_len seq P i) cf
      have HD := Aside0.mk (show mq = (q.1, q.2.1, 0, true) by
       rw [HMQ.out, wrAll_dead at_ _ K (i + 1) (by have := HIK.out; have := cib; simp at this; omega) (by show (dkW (wrF at_ (wrS seq P) i _) _ _).2.2.2 = true; rw [← HQ.out, hd])]
       show dkW (wrF at_ (wrS seq P) i _) _ _ = _
       rw [← HQ.out, hd])
      have cf' := Aside0.mk cf
      refine (write_dies lo b Wb q.1 q.2.1 false (at_ + i) (wrS seq P i) HLO.out hX).mono ?_
      clear hd hX cf
      rintro e Wc ⟨rfl, hX⟩
      have HX2 := Aside0.mk (powX_trans (powX_b HX.out) hX)
      clear hX
      go_wp2_with fail
      refine ⟨rfl, ?_⟩
      unfold RecEnd
      rw [HD.out]
      exact ⟨rfl, HX2.out⟩
     ·have hl := HLv.out.w1 (by have := HF.out; have := HIK.out; omega) HIN2.out (wrS_len seq P i) cf
      have HL2 := Aside0.mk hl
      refine (write_lives lo b Wb q.1 q.2.1 q.2.2.1 false (at_ + i) (wrS seq P i) (wrS_len seq P i) HLv.out.v cf HLO.out (powX_self HX.out)).mono ?_
      clear hl cf
      rintro e Wc ⟨rfl, hX⟩
      have HX2 := Aside0.mk (powX_trans (powX_b HX.out) hX)
      clear hX
      go_wp2_with fail
      go_roundg m
      case measure => omega
      case rel => exact ⟨i + 1, dkW q (at_ + i) (wrS seq P i), by rw [show wrap64 ((i : Int) + 1) = ((i + 1 : Nat) : Int) by have := HK2.out; have := HIK.out; unfold wrap64; omega], ⟨by rw [HQ.out]; rfl⟩, ⟨by have := HI.out; have := HIK.out; simp at cib; omega⟩, ⟨HL2.out.2.1⟩, ⟨HL2.out.2.2.trans HLn.out⟩, ⟨by rw [HL2.out.1]; exact HX2.out⟩⟩
    ·have cib : decide (i < K - 1) = false := decide_eq_false (by omega)
     have hiK : i + 1 = K := by have := HI.out; omega
     have HIK := Aside0.mk (show i < K by omega)
     have HKI := Aside0.mk (show wrap64 ((K : Int) - 1) = (i : Int) by have := HK2.out; unfold wrap64; omega)
     have HAK := Aside0.mk (show wrap64 (wrap64 (at_ + (K : Int)) - 1) = at_ + i by
      rw [HWA.out K (Nat.le_refl _)]
      have h1 := HR.out.2.2.2.1
      have h2 := HR.out.2.2.2.2
      have h3 := (vD_facts HR.out.1).2.2.1
      rw [EK.out] at h2
      unfold wrap64
      omega)
     have hM2 : mq = dkS (dkW (if 1 < K then dkS q else q) (at_ + i) (wrS seq P i)) := by
      rw [HMQ.out]
      unfold wrAll
      rw [show K - 1 = i by omega, ← HQ.out]
     have HM2 := Aside0.mk hM2
     clear ci hiK hM2
     by_cases c1_ : 1 < K
     ·have c1b : decide ((1 : Int) < (K : Int)) = true := decide_eq_true (by omega)
      have HM3 := Aside0.mk (show mq = dkS (dkW (dkS q) (at_ + i) (wrS seq P i)) by rw [HM2.out, if_pos c1_])
      clear c1_
      go_wp2_with fail
      by_cases cf : q.2.2.1 = 0
      ·have hX := powX_self HX.out
       rw [cf] at hX
       have hd := HLv.out.s0 cf
       have HD := Aside0.mk (show mq = (q.1, q.2.1, 0, true) by rw [HM3.out, hd, dkW_dead rfl, dkS_dead rfl])
       refine (sync_dies lo b wr q.1 q.2.1 false hX).mono ?_
       clear hd hX cf
       rintro e Wc ⟨rfl, hX⟩
       have HX2 := Aside0.mk (powX_trans (powX_b HX.out) hX)
       clear hX
       go_wp2_with fail
       refine ⟨rfl, ?_⟩
       unfold RecEnd
       rw [HD.out]
       exact ⟨rfl, HX2.out⟩
      have HL1 := Aside0.mk (HLv.out.s1 cf)
      refine (sync_lives lo b wr q.1 q.2.1 q.2.2.1 false HLv.out.v cf HLO.out (powX_self HX.out)).mono ?_
      clear cf
      rintro e Ws ⟨rfl, hX⟩
      have HX2 := Aside0.mk (powX_trans (powX_b HX.out) hX)
      clear hX
      obtain ⟨q1, hq1⟩ : ∃ q1, q1 = dkS q := ⟨_, rfl⟩
      rw [← hq1] at HL1 HM3
      replace HX := Aside0.mk (show PowX lo b W q1.1 q1.2.1 q1.2.2.1 false Ws by rw [HL1.out.1]; exact HX2.out)
      replace HLn := Aside0.mk (HL1.out.2.2.trans HLn.out)
      replace HLv := Aside0.mk HL1.out.2.1
      have HMS := HM3
      clear HX2 hq1 HM3
      go_wp2_with fail
      rw [HKI.out]
      refine (part_any A3 c3 P i Ws (Kd.C_below HC.out (below_low HBW.out HW.out (powX_b HX.out))) HC3.out (by rw [EK.out]; exact HIK.out) HR.out.2.2.1).mono ?_
      rintro e Wa ⟨Ap, cp, rfl, hp, hcp, hb⟩
      replace HX := Aside0.mk (powX_below HLO.out HX.out hb)
      have HP := Aside0.mk hp
      have HCP := Aside0.mk hcp
      clear hp hcp hb
      go_wp2_with fail
      refine (impl_piece_arr kc seq i K Ap cp (pieceOf P i) (wrS seq P i) Wa HP.out HCP.out (pieceOf_len P i) (HPC.out i HIK.out) (fun l c hl h => crc_bd kc l c (by omega) h)).mono ?_
      rintro e Wb ⟨rfl, _, hb⟩
      replace HX := Aside0.mk (powX_below HLO.out HX.out hb)
      clear hb HP HCP
      go_wp2_with fail
      rw [HAK.out]
      have HIN2 := Aside0.mk (inD_len (HIN.out i HIK.out) HLn.out)
      by_cases cf : q1.2.2.1 = 0
      ·have hX := powX_self HX.out
       rw [cf] at hX
       have hd := HLv.out.w0 (by have := HF.out; have := HIK.out; omega) HIN2.out (wrS_len seq P i) cf
       have HD := Aside0.mk (show mq = (q1.1, q1.2.1, 0, true) by rw [HMS.out, hd, dkS_dead rfl])
       refine (write_dies lo b Wb q1.1 q1.2.1 false (at_ + i) (wrS seq P i) HLO.out hX).mono ?_
       clear hd hX cf
       rintro e Wc ⟨rfl, hX⟩
       have HX2 := Aside0.mk (powX_trans (powX_b HX.out) hX)
       clear hX
       go_wp2_with fail
       refine ⟨rfl, ?_⟩
       unfold RecEnd
       rw [HD.out]
       exact ⟨rfl, HX2.out⟩
      have hl := HLv.out.w1 (by have := HF.out; have := HIK.out; omega) HIN2.out (wrS_len seq P i) cf
      have HL2 := Aside0.mk hl
      refine (write_lives lo b Wb q1.1 q1.2.1 q1.2.2.1 false (at_ + i) (wrS seq P i) (wrS_len seq P i) HLv.out.v cf HLO.out (powX_self HX.out)).mono ?_
      clear hl cf
      rintro e Wc ⟨rfl, hX⟩
      have HX2 := Aside0.mk (powX_trans (powX_b HX.out) hX)
      clear hX
      obtain ⟨q2, hq2⟩ : ∃ q2, q2 = dkW q1 (at_ + i) (wrS seq P i) := ⟨_, rfl⟩
      rw [← hq2] at HL2 HMS
      replace HX := Aside0.mk (show PowX lo b W q2.1 q2.2.1 q2.2.2.1 false Wc by rw [HL2.out.1]; exact HX2.out)
      clear HX2 hq2
      go_wp2_with fail
      by_cases cf : q2.2.2.1 = 0
      ·have hX := powX_self HX.out
       rw [cf] at hX
       have hd := HL2.out.2.1.s0 cf
       have HD := Aside0.mk (show mq = (q2.1, q2.2.1, 0, true) by rw [HMS.out, hd])
       refine (sync_dies lo b Wc q2.1 q2.2.1 false hX).mono ?_
       clear hd hX cf
       rintro e Wd ⟨rfl, hX⟩
       have HX2 := Aside0.mk (powX_trans (powX_b HX.out) hX)
       clear hX
       go_wp2_with fail
       refine ⟨rfl, ?_⟩
       unfold RecEnd
       rw [HD.out]
       exact ⟨rfl, HX2.out⟩
      have HL3 := Aside0.mk (HL2.out.2.1.s1 cf)
      refine (sync_lives lo b Wc q2.1 q2.2.1 q2.2.2.1 false HL2.out.2.1.v cf HLO.out (powX_self HX.out)).mono ?_
      clear cf
      rintro e Wd ⟨rfl, hX⟩
      have HX2 := Aside0.mk (powX_trans (powX_b HX.out) hX)
      clear hX
      go_wp2_with fail
      go_end0
      unfold RecEnd
      rw [HMS.out, HL3.out.1]
      exact ⟨rfl, HX2.out⟩
     ·have c1b : decide ((1 : Int) < (K : Int)) = false := decide_eq_false (by omega)
      have HMS := Aside0.mk (show mq = dkS (dkW q (at_ + i) (wrS seq P i)) by rw [HM2.out, if_neg c1_])
      clear c1_
      go_wp2_with fail
      rw [HKI.out]
      refine (part_any A3 c3 P i wr (Kd.C_below HC.out (below_low HBW.out HW.out (powX_b HX.out))) HC3.out (by rw [EK.out]; exact HIK.out) HR.out.2.2.1).mono ?_
      rintro e Wa ⟨Ap, cp, rfl, hp, hcp, hb⟩
      replace HX := Aside0.mk (powX_below HLO.out HX.out hb)
      have HP := Aside0.mk hp
      have HCP := Aside0.mk hcp
      clear hp hcp hb
      go_wp2_with fail
      refine (impl_piece_arr kc seq i K Ap cp (pieceOf P i) (wrS seq P i) Wa HP.out HCP.out (pieceOf_len P i) (HPC.out i HIK.out) (fun l c hl h => crc_bd kc l c (by omega) h)).mono ?_
      rintro e Wb ⟨rfl, _, hb⟩
      replace HX := Aside0.mk (powX_below HLO.out HX.out hb)
      clear hb HP HCP
      go_wp2_with fail
      rw [HAK.out]
      have HIN2 := Aside0.mk (inD_len (HIN.out i HIK.out) HLn.out)
      by_cases cf : q.2.2.1 = 0
      ·have hX := powX_self HX.out
       rw [cf] at hX
       have hd := HLv.out.w0 (by have := HF.out; have := HIK.out; omega) HIN2.out (wrS_len seq P i) cf
       have HD := Aside0.mk (show mq = (q.1, q.2.1, 0, true) by rw [HMS.out, hd, dkS_dead rfl])
       refine (write_dies lo b Wb q.1 q.2.1 false (at_ + i) (wrS seq P i) HLO.out hX).mono ?_
       clear hd hX cf
       rintro e Wc ⟨rfl, hX⟩
       have HX2 := Aside0.mk (powX_trans (powX_b HX.out) hX)
       clear hX
       go_wp2_with fail
       refine ⟨rfl, ?_⟩
       unfold RecEnd
       rw [HD.out]
       exact ⟨rfl, HX2.out⟩
      have hl := HLv.out.w1 (by have := HF.out; have := HIK.out; omega) HIN2.out (wrS_len seq P i) cf
      have HL2 := Aside0.mk hl
      refine (write_lives lo b Wb q.1 q.2.1 q.2.2.1 false (at_ + i) (wrS seq P i) (wrS_len seq P i) HLv.out.v cf HLO.out (powX_self HX.out)).mono ?_
      clear hl cf
      rintro e Wc ⟨rfl, hX⟩
      have HX2 := Aside0.mk (powX_trans (powX_b HX.out) hX)
      clear hX
      obtain ⟨q2, hq2⟩ : ∃ q2, q2 = dkW q (at_ + i) (wrS seq P i) := ⟨_, rfl⟩
      rw [← hq2] at HL2 HMS
      replace HX := Aside0.mk (show PowX lo b W q2.1 q2.2.1 q2.2.2.1 false Wc by rw [HL2.out.1]; exact HX2.out)
      clear HX2 hq2
      go_wp2_with fail
      by_cases cf : q2.2.2.1 = 0
      ·have hX := powX_self HX.out
       rw [cf] at hX
       have hd := HL2.out.2.1.s0 cf
       have HD := Aside0.mk (show mq = (q2.1, q2.2.1, 0, true) by rw [HMS.out, hd])
       refine (sync_dies lo b Wc q2.1 q2.2.1 false hX).mono ?_
       clear hd hX cf
       rintro e Wd ⟨rfl, hX⟩
       have HX2 := Aside0.mk (powX_trans (powX_b HX.out) hX)
       clear hX
       go_wp2_with fail
       refine ⟨rfl, ?_⟩
       unfold RecEnd
       rw [HD.out]
       exact ⟨rfl, HX2.out⟩
      have HL3 := Aside0.mk (HL2.out.2.1.s1 cf)
      refine (sync_lives lo b Wc q2.1 q2.2.1 q2.2.2.1 false HL2.out.2.1.v cf HLO.out (powX_self HX.out)).mono ?_
      clear cf
      rintro e Wd ⟨rfl, hX⟩
      have HX2 := Aside0.mk (powX_trans (powX_b HX.out) hX)
      clear hX
      go_wp2_with fail
      go_end0
      unfold RecEnd
      rw [HMS.out, HL3.out.1]
      exact ⟨rfl, HX2.out⟩

/-! ### zL_wslow: a text by hand -/
def wrI (at_ : Int) (S : Nat → List Int) (K i : Nat) (q : List Int × List S79 × Int × Bool) : List Int × List S79 × Int × Bool :=
 if i < K then wrF at_ S i q else dkW (if 1 < K then dkS (wrF at_ S (K - 1) q) else wrF at_ S (K - 1) q) (at_ + ((K - 1 : Nat) : Int)) (S (K - 1))
theorem wrI_ok {q : List Int × List S79 × Int × Bool} (h : okQ q) (at_ : Int) (S : Nat → List Int) (K i : Nat) : okQ (wrI at_ S K i q) := by
 unfold wrI
 split
 ·exact wrF_ok h _ _ _
 ·refine dkW_ok ?_ _ _
  split
  ·exact dkS_ok (wrF_ok h _ _ _)
  ·exact wrF_ok h _ _ _
theorem wrI_next {q : List Int × List S79 × Int × Bool} (at_ : Int) (S : Nat → List Int) (K i : Nat) (hi : i < K) : wrI at_ S K (i + 1) q = dkW (if i + 1 = K ∧ 1 < K then dkS (wrI at_ S K i q) else wrI at_ S K i q) (at_ + (i : Int)) (S i) := by
 unfold wrI
 rw [if_pos hi]
 by_cases h : i + 1 < K
 ·rw [if_pos h, if_neg (by omega)]
  rfl
 ·rw [if_neg h, show K - 1 = i by omega]
  by_cases h1 : 1 < K
  ·rw [if_pos h1, if_pos ⟨by omega, h1⟩]
  ·rw [if_neg h1, if_neg (fun hh => h1 hh.2)]
theorem m_DiskWrite_eq {q : List Int × List S79 × Int × Bool} (h : okQ q) (s : Int) (xs : List Int) {q' : List Int × List S79 × Int × Bool} (hq : q' = dkW q s xs) : m_DiskWrite.f q.1 q.2.1 q.2.2.1 q.2.2.2 s xs = some (q'.1, q'.2.1, q'.2.2.1, q'.2.2.2) := by
 unfold m_DiskWrite.f
 rw [if_pos ⟨h.1, h.2.1, okS_all h.2⟩, hq]
 rfl
theorem m_DiskSync_eq {q : List Int × List S79 × Int × Bool} (h : okQ q) {q' : List Int × List S79 × Int × Bool} (hq : q' = dkS q) : m_DiskSync.f q.1 q.2.1 q.2.2.1 q.2.2.2 = some (q'.1, q'.2.1, q'.2.2.1, q'.2.2.2) := by
 unfold m_DiskSync.f
 rw [if_pos ⟨h.1, h.2.1, okS_all h.2⟩, hq]
 rfl
set_option maxHeartbeats 4000000 in
set_option maxRecDepth 100000 in
theorem slow_any (A0 : Option Addr) (c0 : Nat) (l0 : List Int) (A1 : Option Addr) (c1 : Nat) (l1 : List S79) (a2 : Int) (a3 : Bool) (at_ seq : Int) (A3 : Option Addr) (c3 : Nat) (P : List Int) (w : World)
  (hr0 : Kd.C (Kd.int .u8) w A0 l0.length l0) (hc0 : l0.length ≤ c0) (hr1 : Kd.C k79 w A1 l1.length l1) (hc1 : l1.length ≤ c1) (hr3 : Kd.C (Kd.int .u8) w A3 P.length P) (hc3 : P.length ≤ c3) (h0 : l0.length ≤ 1048576) (hok : okPendS l1) :
  Calls Try.prog 85 #[.agg #[.slice A0 l0.length c0, .slice A1 l1.length c1, .int .i64 a2, .bool a3], .int .i64 at_, .int .i64 seq, .slice A3 P.length c3] w fun e w' => ∃ v0 v1 : Value, e = .returned (.agg #[v0, v1, .int .i64 (mWR l0 l1 a2 a3 at_ seq P).2.2.1, .bool (mWR l0 l1 a2 a3 at_ seq P).2.2.2]) ∧ Kd.R (Kd.int .u8) 5 w' w.heap.size (fun _ => True) v0 (mWR l0 l1 a2 a3 at_ seq P).1 ∧ Kd.S k79 79 w' w.heap.size (fun k_ => some k_ ≠ v0.ownBlock) v1 (mWR l0 l1 a2 a3 at_ seq P).2.1 ∧ Below w.heap.size w w' := by
 obtain ⟨kv, hv⟩ := (implValid_ev l0 l1 a2 a3 h0 hok.1).rounds
 have HV := Aside0.mk hv
 have HR0 := Aside0.mk hr0
 have HC0 := Aside0.mk hc0
 have HR1 := Aside0.mk hr1
 have HC1 := Aside0.mk hc1
 have HR3 := Aside0.mk hr3
 have HC3 := Aside0.mk hc3
 have H0 := Aside0.mk h0
 have HOK := Aside0.mk hok
 clear hv hr0 hc0 hr1 hc1 hr3 hc3 h0 hok
 have hu25 := Try.underlying25
 have K8 := Aside0.mk (blk_new (w.alloc (.cells #[.slice A0 l0.length c0, .slice A1 l1.length c1, .int .i64 a2, .bool a3] 25)) (.cells #[.slice none 0 0, .slice none 0 0, .int .i64 0, .bool false] 25))
 simp only [World.size_alloc] at K8
 have HD := Aside0.mk (DB.new (zz := #[.slice none 0 0, .slice none 0 0, .int .i64 0, .bool false]) (a2 := a2) (a3 := a3) HR0.out HC0.out HR1.out HC1.out)
 go_enter Try.func85, Try.ntmps85
 go_wp2_with fail
 generalize ((w.alloc (.cells #[.slice A0 l0.length c0, .slice A1 l1.length c1, .int .i64 a2, .bool a3] 25)).alloc (.cells #[.slice none 0 0, .slice none 0 0, .int .i64 0, .bool false] 25)) = W0 at *
 refine (impl_RecSectors.calls _ _ _ (implRec_eq P.length)).mono ?_
 rintro e W1 ⟨rfl, hb⟩
 replace HD := Aside0.mk (HD.out.below hb)
 replace K8 := Aside0.mk (blk_below K8.out hb)
 clear hb
 obtain ⟨g, hg⟩ : ∃ g, g = w.heap.size := ⟨_, rfl⟩
 have HG := Aside0.mk hg
 rw [← hg] at HD K8 ⊢
 clear hg
 go_upto_region 2 with (fail)
 go_cut [42] (fun v42 wc => ∃ bad : Bool, v42 = .bool bad ∧ Aside0 (bad = true ↔ ¬ (wrC l0 l1 a2 at_ seq P ∧ a3 = false)) ∧ Aside0 (DB w wc g A0 c0 A1 c1 l0 l1 a2 a3) ∧ Aside0 (wc.heap[g + 1]? = some (.cells #[.slice none 0 0, .slice none 0 0, .int .i64 0, .bool false] 25 (0, 0))))
 case first =>
  obtain ⟨z0, z1, z2, z3, y0, y1, y2, y3⟩ := blk_cells4 HD.out.box
  go_wp2_with fail
  refine (impl_ValidDisk.calls kv _ _ l0 _ _ l1 a2 a3 _ _ HD.out.c0 HD.out.n0 HD.out.c1 HD.out.n1 HV.out).mono ?_
  rintro e W2 ⟨rfl, hd⟩
  have hb := hd
  replace HD := Aside0.mk (HD.out.below hb)
  replace K8 := Aside0.mk (blk_below K8.out hb)
  clear hb z0 z1 z2 z3 y0 y1 y2 y3
  obtain ⟨z0, z1, z2, z3, y0, y1, y2, y3⟩ := blk_cells4 HD.out.box
  clear hd
  by_cases cv : vD l0 l1 a2 = true
  case neg =>
    have cv' : vD l0 l1 a2 = false := by simpa using cv
    rw [cv']
    go_wp2_with fail
    go_meet
    case rel => exact ⟨true, rfl, ⟨by simp [wrC, cv']⟩, HD, K8⟩
  rw [cv]
  have CV := Aside0.mk cv
  clear cv
  cases a3 with
  | true =>
    go_wp2_with fail
    go_meet
    case rel => exact ⟨true, rfl, ⟨by simp⟩, HD, K8⟩
  | false =>
    go_wp2_with fail
    refine (impl_goodNumber.calls seq _ _ (goodN_eq seq)).mono ?_
    rintro e W3 ⟨rfl, hd⟩
    have hb := hd.below
    replace HD := Aside0.mk (HD.out.below hb)
    replace K8 := Aside0.mk (blk_below K8.out hb)
    clear hb z0 z1 z2 z3 y0 y1 y2 y3
    obtain ⟨z0, z1, z2, z3, y0, y1, y2, y3⟩ := blk_cells4 HD.out.box
    clear hd
    by_cases cg : gN seq = true
    case neg =>
     have cg' : gN seq = false := by simpa using cg
     rw [cg']
     go_wp2_with fail
     go_meet
     case rel => exact ⟨true, rfl, ⟨by simp [wrC, cg']⟩, HD, K8⟩
    rw [cg]
    have CG := Aside0.mk cg
    clear cg
    by_cases ck : recI P.length = 0
    ·have ckb : (recI P.length == 0) = true := by simpa using ck
     have CK := Aside0.mk (recI_zero ck)
     clear ck
     go_wp2_with fail
     go_meet
     case rel => exact ⟨true, rfl, ⟨by have := CK.out; simp [wrC, this]⟩, HD, K8⟩
    have CK := Aside0.mk (recI_ne ck)
    have ckb : (recI P.length == 0) = false := by simpa using ck
    clear ck
    by_cases c2 : at_ < 2
    ·have C2 := Aside0.mk c2
     go_wp2_with fail
     go_meet
     case rel => exact ⟨true, rfl, ⟨by have := C2.out; simp only [wrC, true_iff]; omega⟩, HD, K8⟩
    have C2 := Aside0.mk c2
    have HS := Aside0.mk (show impl_Disk_sectors.f l0 l1 a2 false = some ((l0.length / 64 : Nat) : Int) by unfold impl_Disk_sectors.f; rw [sectors_at l0 H0.out])
    go_wp2_with fail
    refine (impl_Disk_sectors.calls _ _ l0 _ _ l1 a2 false _ _ HD.out.c0 HD.out.n0 HD.out.c1 HD.out.n1 HS.out).mono ?_
    rintro e W4 ⟨rfl, hd⟩
    have hb := hd
    replace HD := Aside0.mk (HD.out.below hb)
    replace K8 := Aside0.mk (blk_below K8.out hb)
    clear hb z0 z1 z2 z3 y0 y1 y2 y3
    obtain ⟨z0, z1, z2, z3, y0, y1, y2, y3⟩ := blk_cells4 HD.out.box
    clear hd
    have HWW := Aside0.mk (show wrap64 (((l0.length / 64 : Nat) : Int) - recI P.length) = ((l0.length / 64 : Nat) : Int) - recK P.length by
     have h1 := recK_le P.length CK.out.1
     have h4 := H0.out
     rw [CK.out.2]
     unfold wrap64
     omega)
    go_wp2_with fail
    go_meet
    case rel =>
     refine ⟨_, rfl, ⟨?_⟩, HD, K8⟩
     have e1 := HWW.out
     try rw [show (((l0.length / 64 : Nat) : Int)) = (l0.length : Int) / 64 by omega] at e1
     try rw [e1]
     have h1 := CK.out.1
     have h2 := C2.out
     simp only [wrC, CV.out, CG.out, Bool.or_eq_true, decide_eq_true_eq, true_and, and_true]
     omega
 case rest =>
  clear HD K8
  obtain ⟨bad, rfl, HBAD, HD, K8⟩ := hcut
  obtain ⟨z0, z1, z2, z3, y0, y1, y2, y3⟩ := blk_cells4 HD.out.box
  cases bad with
  | true =>
    have HM := Aside0.mk (show mWR l0 l1 a2 a3 at_ seq P = (l0, l1, a2, a3) by
     unfold mWR
     by_cases hw : wrC l0 l1 a2 at_ seq P
     ·rw [if_pos hw]
      have h3 : a3 = true := by
        have := HBAD.out.1 rfl
        cases a3 with
        | true => rfl
        | false => exact absurd ⟨hw, rfl⟩ this
      rw [wrAll_dead (q := (l0, l1, a2, a3)) at_ (wrS seq P) (recK P.length) 0 (Nat.zero_le _) h3]
      rfl
     ·rw [if_neg hw])
    go_wp2_with fail
    refine (impl_Disk_clone.calls _ _ _ _ _ _ _ _ _ HD.out.c0 HD.out.n0 HD.out.c1 HD.out.n1 H0.out HOK.out).mono ?_
    rintro e W7 ⟨v0, v1, rfl, hR, hS, gb⟩
    obtain ⟨A, c, ea⟩ := Kd.R_slice hR
    obtain ⟨B, d, eb⟩ := Kd.S_slice hS
    obtain ⟨f1, f2, f3, f4, f5⟩ := fin_disk (r3 := a2) (r4 := a3) HD.out.b (Nat.le_succ_of_le HD.out.le) K8.out hR hS gb
    have F2 := Aside0.mk f2
    have F3 := Aside0.mk f3
    have F4 := Aside0.mk f4
    have F5 := Aside0.mk f5
    clear z0 z1 z2 z3 y0 y1 y2 y3
    obtain ⟨x0, x1, x2, x3, u0, u1, u2, u3⟩ := blk_cells4 f1
    have ul := blk_lt f1
    clear f1 f2 f3 f4 f5 hR hS gb
    generalize l0.length = n1 at ea
    generalize l1.length = n2 at eb
    subst ea
    subst eb
    go_wp2_with fail
    refine bodyPost_ret (results_cell_row rfl _ _ (g + 1) 25 _ (0, 0) _ rfl F2.out hu25 rfl (by kernel_rfl)) rfl ?_
    rw [HM.out]
    exact ⟨_, _, rfl, F3.out, F4.out, F5.out⟩
  | false =>
    have hc : wrC l0 l1 a2 at_ seq P ∧ a3 = false := by have := HBAD.out; simpa using this
    obtain ⟨hc, rfl⟩ := hc
    have HC := Aside0.mk hc
    have HM := Aside0.mk (show mWR l0 l1 a2 false at_ seq P = wrAll at_ (wrS seq P) (recK P.length) (l0, l1, a2, false) by unfold mWR; rw [if_pos hc])
    have hk : recI P.length = (recK P.length : Int) := by unfold recI; rw [if_pos hc.2.2.1]
    obtain ⟨kc, hkc⟩ := rounds_all (F := fun i kc => cPiece kc seq (i : Int) (recK P.length) (pieceOf P i)) (v := fun i => wrS seq P i) (recK P.length) (fun i _ => cPiece_ev crcF_ok seq hc.2.1 (i : Int) (recK P.length) (pieceOf P i) (pieceOf_len P i))
    have HPC := Aside0.mk (fun (i : Nat) (hi : i < recK P.length) => hkc kc i (Nat.le_refl _) hi)
    rw [hk]
    clear hc hk hkc HBAD z0 z1 z2 z3 y0 y1 y2 y3
    have HKP := Aside0.mk (recK_pos P.length)
    have HKL := Aside0.mk (recK_le P.length HC.out.2.2.1)
    go_wp2_with fail
    go_loopg [46] (recK P.length) (fun kq v46 w' => ∃ (i : Nat) (q : List Int × List S79 × Int × Bool) (A B : Option Addr) (c d : Nat), v46 = .int .i64 i ∧ Aside0 (q = wrI at_ (wrS seq P) (recK P.length) i (l0, l1, a2, false)) ∧ Aside0 (i ≤ recK P.length ∧ recK P.length ≤ kq + i) ∧ Aside0 (DB w w' g A c B d q.1 q.2.1 q.2.2.1 q.2.2.2) ∧ Aside0 (w'.heap[g + 1]? = some (.cells #[.slice none 0 0, .slice none 0 0, .int .i64 0, .bool false] 25 (0, 0))))
    case atStart => exact ⟨0, (l0, l1, a2, false), A0, A1, c0, c1, rfl, ⟨by unfold wrI; rw [if_pos (show 0 < recK P.length from HKP.out)]; rfl⟩, ⟨by omega, by omega⟩, HD, K8⟩
    case round =>
     clear HD K8
     obtain ⟨i, q, A, B, c, d, rfl, HQ, HI, HD, K8⟩ := hrel
     have HOQ := Aside0.mk (show okQ q by rw [HQ.out]; exact wrI_ok ⟨H0.out, HOK.out⟩ at_ _ _ i)
     have HW1 := Aside0.mk (show wrap64 ((i : Int) + 1) = ((i + 1 : Nat) : Int) by have := HI.out; have := HKL.out; unfold wrap64; omega)
     have HWA := Aside0.mk (show ∀ j : Nat, j ≤ recK P.length → wrap64 (at_ + (j : Int)) = at_ + j from fun j hj => by have h1 := HC.out.2.2.2.1; have h2 := HC.out.2.2.2.2; have h3 := H0.out; unfold wrap64; omega)
     have HWK := Aside0.mk (show wrap64 ((recK P.length : Int) - 1) = ((recK P.length - 1 : Nat) : Int) by have := HKP.out; have := HKL.out; unfold wrap64; omega)
     by_cases ci : i < recK P.length
     ·have cib : decide (i < recK P.length) = true := decide_eq_true ci
      have HIK := Aside0.mk ci
      clear ci
      cases gk with
      | zero => exact absurd HI.out (by have := HIK.out; omega)
      | succ m =>
        go_upto_region 7 with (fail)
        go_cut [56] (fun v56 wc => v56 = .bool (decide (i + 1 = recK P.length ∧ 1 < recK P.length)) ∧ wc = wr)
        case first =>
          by_cases e1 : i + 1 = recK P.length
          ·have e52 : ((i : Int) == wrap64 ((recK P.length : Int) - 1)) = true := by rw [HWK.out]; exact beq_iff_eq.2 (by omega)
           by_cases e2 : 1 < recK P.length
           ·have e55 : decide ((1 : Int) < (recK P.length : Int)) = true := decide_eq_true (by omega)
            have E1 := Aside0.mk (And.intro e1 e2)
            clear e1 e2
            go_wp2_with fail
            go_meet
            case rel => exact ⟨by rw [decide_eq_true E1.out], rfl⟩
           ·have e55 : decide ((1 : Int) < (recK P.length : Int)) = false := decide_eq_false (by omega)
            have E2 := Aside0.mk e2
            clear e1 e2
            go_wp2_with fail
            go_meet
            case rel => exact ⟨by rw [decide_eq_false (fun h => E2.out h.2)], rfl⟩
          ·have e52 : ((i : Int) == wrap64 ((recK P.length : Int) - 1)) = false := by rw [HWK.out]; exact beq_eq_false_iff_ne.2 (by have := HIK.out; omega)
           have E1 := Aside0.mk e1
           clear e1
           go_wp2_with fail
           go_meet
           case rel => exact ⟨by rw [decide_eq_false (fun h => E1.out h.1)], rfl⟩
        case rest =>
          obtain ⟨rfl, rfl⟩ := hcut
          by_cases ce : i + 1 = recK P.length ∧ 1 < recK P.length
          ·have ceb : decide (i + 1 = recK P.length ∧ 1 < recK P.length) = true := decide_eq_true ce
           rw [ceb]
           have CE := Aside0.mk ce
           clear ce ceb
           obtain ⟨z0, z1, z2, z3, y0, y1, y2, y3⟩ := blk_cells4 HD.out.box
           have yl := blk_lt HD.out.box
           go_wp2_with fail
           obtain ⟨q1, hq1⟩ : ∃ q1, q1 = dkS q := ⟨_, rfl⟩
           refine (impl_DiskSync.calls A c q.1 B d q.2.1 q.2.2.1 q.2.2.2 q1.1 q1.2.1 q1.2.2.1 q1.2.2.2 _ HD.out.c0 HD.out.n0 HD.out.c1 HD.out.n1 (m_DiskSync_eq HOQ.out hq1)).mono ?_
           have HQ1 := Aside0.mk hq1
           clear yl hq1
           replace HOQ := Aside0.mk (show okQ q1 by rw [HQ1.out]; exact dkS_ok HOQ.out)
           rintro e W9 ⟨v0, v1, rfl, hR, hS, gb⟩
           obtain ⟨A', c', ea⟩ := Kd.R_slice hR
           obtain ⟨B', d', eb⟩ := Kd.S_slice hS
           subst ea
           subst eb
           have K9 := Aside0.mk (HD.out.below gb).box
           have n0 := Aside0.mk (HD.out.put (r3 := q1.2.2.1) (r4 := q1.2.2.2) gb hR hS)
           have n1 := Aside0.mk (blk_far (blk_far (blk_far (blk_far (blk_below K8.out gb) (p := ⟨g, 0, none⟩) (Nat.succ_ne_self g) (.slice A' q1.1.length c')) (p := ⟨g, 1, none⟩) (Nat.succ_ne_self g) (.slice B' q1.2.1.length d')) (p := ⟨g, 2, none⟩) (Nat.succ_ne_self g) (.int .i64 q1.2.2.1)) (p := ⟨g, 3, none⟩) (Nat.succ_ne_self g) (.bool q1.2.2.2))
           clear HD K8 z0 z1 z2 z3 y0 y1 y2 y3 hR hS gb
           obtain ⟨z0, z1, z2, z3, y0, y1, y2, y3⟩ := blk_cells4 K9.out
           have yl := blk_lt K9.out
           go_upto_region 9 with (fail)
           clear z0 z1 z2 z3 y0 y1 y2 y3 yl K9
           generalize ((((W9.setCell ⟨g, 0, none⟩ (.slice A' q1.1.length c')).setCell ⟨g, 1, none⟩ (.slice B' q1.2.1.length d')).setCell ⟨g, 2, none⟩ (.int .i64 q1.2.2.1)).setCell ⟨g, 3, none⟩ (.bool q1.2.2.2)) = Wb at *
           have HD := n0
           have K8 := n1
           clear n0 n1
           go_wp2_with fail
           refine (part_any A3 c3 P i Wb (Kd.C_below HR3.out HD.out.b) HC3.out HIK.out HC.out.2.2.1).mono ?_
           rintro e Wa ⟨Ap, cp, rfl, hp, hcp, hb⟩
           replace HD := Aside0.mk (HD.out.below hb)
           replace K8 := Aside0.mk (blk_below K8.out hb)
           have HP := Aside0.mk hp
           have HCP := Aside0.mk hcp
           clear hp hcp hb
           go_wp2_with fail
           refine (impl_piece_arr kc seq i (recK P.length) Ap cp (pieceOf P i) (wrS seq P i) Wa HP.out HCP.out (pieceOf_len P i) (HPC.out i HIK.out) (fun l c hl h => crc_bd kc l c (by omega) h)).mono ?_
           rintro e w3 ⟨rfl, htl, hb⟩
           replace HD := Aside0.mk (HD.out.below hb)
           replace K8 := Aside0.mk (blk_below K8.out hb)
           clear hb HP HCP
           have yz : (w3.alloc (.cells (Array.replicate 64 (.int .u8 0)) 84)).heap[w3.heap.size]? = some (.cells (Array.replicate 64 (.int .u8 0)) 84 (0, 0)) := blk_new _ _
           have hst := Aside0.mk (store_arr (P := Try.prog) (w3.alloc (.cells (Array.replicate 64 (.int .u8 0)) 84)) w3.heap.size 84 84 _ ((wrS seq P i).map (Value.int .u8)).toArray yz (by rw [List.size_toArray, List.length_map, htl]; kernel_rfl) (by simp [htl]) (by simp [Value.oneCell']))
           have YZ := Aside0.mk yz
           clear yz
           go_wp2_with (first | ((with_reducible refine gate_store (t := 84) (p := 11) rfl ?_); refine store_event rfl rfl rfl (exec_store _ _ _ rfl rfl rfl hst.out) ?_; intro w4 hw4; have HW4 := Aside0.mk hw4; clear hw4))
           have KA := Aside0.mk (show w4.heap[w3.heap.size]? = some (.cells ((wrS seq P i).map (Value.int .u8)).toArray 84 (0, 0)) by rw [HW4.out]; exact setRow_heap _ _ _ _ _ _ YZ.out)
           have hb : Below w3.heap.size w3 w4 := by rw [HW4.out]; exact below_setRow (g := w3.heap.size) (below_alloc (Below.refl _ _) _) (Nat.le_refl _) _
           replace HD := Aside0.mk (HD.out.below hb)
           replace K8 := Aside0.mk (blk_below K8.out hb)
           clear hst YZ HW4 hb
           generalize w3.heap.size = gA at *
           go_still_tail 5, (by kernel_rfl)
           change wpStill _ _ w4.drew (fun a' => wpList _ _ _ _ a' w4.drew) _ _
           replace KA := Aside0.mk (blk_drew KA.out)
           replace HD := Aside0.mk (HD.out.below (below_drew (Below.refl _ _)))
           replace K8 := Aside0.mk (blk_drew K8.out)
           generalize w4.drew = W at *
           obtain ⟨z0, z1, z2, z3, y0, y1, y2, y3⟩ := blk_cells4 HD.out.box
           repeat still_step
           refine wpStill_nil ?_
           go_wp2_with fail
           rw [HWA.out i (Nat.le_of_lt HIK.out)]
           have hC : Kd.C (Kd.int .u8) W (some ⟨gA, 0, none⟩) (wrS seq P i).length (wrS seq P i) := C_of_cells (by omega) _ (fun j x hj => by rw [add_plain]; exact (blk_cell KA.out j).trans (by simp [hj]))
           obtain ⟨q', hq'⟩ : ∃ q', q' = dkW q1 (at_ + i) (wrS seq P i) := ⟨_, rfl⟩
           have hdw := impl_DiskWrite.calls A' c' q1.1 B' d' q1.2.1 q1.2.2.1 q1.2.2.2 (at_ + i) (some ⟨gA, 0, none⟩) 64 (wrS seq P i) q'.1 q'.2.1 q'.2.2.1 q'.2.2.2 W HD.out.c0 HD.out.n0 HD.out.c1 HD.out.n1 hC (by omega) (m_DiskWrite_eq HOQ.out _ _ hq')
           rw [htl] at hdw
           refine hdw.mono ?_
           have HQ2 := Aside0.mk hq'
           clear hdw hC hq'
           rintro e W9 ⟨v0, v1, rfl, hR, hS, gb⟩
           obtain ⟨A2, c2, ea⟩ := Kd.R_slice hR
           obtain ⟨B2, d2, eb⟩ := Kd.S_slice hS
           subst ea
           subst eb
           have K9 := Aside0.mk (HD.out.below gb).box
           have n0 := Aside0.mk (HD.out.put (r3 := q'.2.2.1) (r4 := q'.2.2.2) gb hR hS)
           have n1 := Aside0.mk (blk_far (blk_far (blk_far (blk_far (blk_below K8.out gb) (p := ⟨g, 0, none⟩) (Nat.succ_ne_self g) (.slice A2 q'.1.length c2)) (p := ⟨g, 1, none⟩) (Nat.succ_ne_self g) (.slice B2 q'.2.1.length d2)) (p := ⟨g, 2, none⟩) (Nat.succ_ne_self g) (.int .i64 q'.2.2.1)) (p := ⟨g, 3, none⟩) (Nat.succ_ne_self g) (.bool q'.2.2.2))
           clear HD K8 z0 z1 z2 z3 y0 y1 y2 y3 hR hS gb
           obtain ⟨z0, z1, z2, z3, y0, y1, y2, y3⟩ := blk_cells4 K9.out
           have yl := blk_lt K9.out
           clear KA
           go_wp2_with fail
           go_roundg m
           case measure => omega
           case rel => exact ⟨i + 1, q', A2, B2, c2, d2, by rw [HW1.out], ⟨by rw [wrI_next at_ _ _ _ HIK.out, ← HQ.out, HQ2.out, if_pos CE.out, HQ1.out]⟩, ⟨by have := HI.out; have := HIK.out; omega⟩, n0, n1⟩
          ·have ceb : decide (i + 1 = recK P.length ∧ 1 < recK P.length) = false := decide_eq_false ce
           rw [ceb]
           have CE := Aside0.mk ce
           clear ce ceb
           go_wp2_with fail
           refine (part_any A3 c3 P i wc (Kd.C_below HR3.out HD.out.b) HC3.out HIK.out HC.out.2.2.1).mono ?_
           rintro e Wa ⟨Ap, cp, rfl, hp, hcp, hb⟩
           replace HD := Aside0.mk (HD.out.below hb)
           replace K8 := Aside0.mk (blk_below K8.out hb)
           have HP := Aside0.mk hp
           have HCP := Aside0.mk hcp
           clear hp hcp hb
           go_wp2_with fail
           refine (impl_piece_arr kc seq i (recK P.length) Ap cp (pieceOf P i) (wrS seq P i) Wa HP.out HCP.out (pieceOf_len P i) (HPC.out i HIK.out) (fun l c hl h => crc_bd kc l c (by omega) h)).mono ?_
           rintro e w3 ⟨rfl, htl, hb⟩
           replace HD := Aside0.mk (HD.out.below hb)
           replace K8 := Aside0.mk (blk_below K8.out hb)
           clear hb HP HCP
           have yz : (w3.alloc (.cells (Array.replicate 64 (.int .u8 0)) 84)).heap[w3.heap.size]? = some (.cells (Array.replicate 64 (.int .u8 0)) 84 (0, 0)) := blk_new _ _
           have hst := Aside0.mk (store_arr (P := Try.prog) (w3.alloc (.cells (Array.replicate 64 (.int .u8 0)) 84)) w3.heap.size 84 84 _ ((wrS seq P i).map (Value.int .u8)).toArray yz (by rw [List.size_toArray, List.length_map, htl]; kernel_rfl) (by simp [htl]) (by simp [Value.oneCell']))
           have YZ := Aside0.mk yz
           clear yz
           go_wp2_with (first | ((with_reducible refine gate_store (t := 84) (p := 11) rfl ?_); refine store_event rfl rfl rfl (exec_store _ _ _ rfl rfl rfl hst.out) ?_; intro w4 hw4; have HW4 := Aside0.mk hw4; clear hw4))
           have KA := Aside0.mk (show w4.heap[w3.heap.size]? = some (.cells ((wrS seq P i).map (Value.int .u8)).toArray 84 (0, 0)) by rw [HW4.out]; exact setRow_heap _ _ _ _ _ _ YZ.out)
           have hb : Below w3.heap.size w3 w4 := by rw [HW4.out]; exact below_setRow (g := w3.heap.size) (below_alloc (Below.refl _ _) _) (Nat.le_refl _) _
           replace HD := Aside0.mk (HD.out.below hb)
           replace K8 := Aside0.mk (blk_below K8.out hb)
           clear hst YZ HW4 hb
           generalize w3.heap.size = gA at *
           go_still_tail 5, (by kernel_rfl)
           change wpStill _ _ w4.drew (fun a' => wpList _ _ _ _ a' w4.drew) _ _
           replace KA := Aside0.mk (blk_drew KA.out)
           replace HD := Aside0.mk (HD.out.below (below_drew (Below.refl _ _)))
           replace K8 := Aside0.mk (blk_drew K8.out)
           generalize w4.drew = W at *
           obtain ⟨z0, z1, z2, z3, y0, y1, y2, y3⟩ := blk_cells4 HD.out.box
           repeat still_step
           refine wpStill_nil ?_
           go_wp2_with fail
           rw [HWA.out i (Nat.le_of_lt HIK.out)]
           have hC : Kd.C (Kd.int .u8) W (some ⟨gA, 0, none⟩) (wrS seq P i).length (wrS seq P i) := C_of_cells (by omega) _ (fun j x hj => by rw [add_plain]; exact (blk_cell KA.out j).trans (by simp [hj]))
           obtain ⟨q', hq'⟩ : ∃ q', q' = dkW q (at_ + i) (wrS seq P i) := ⟨_, rfl⟩
           have hdw := impl_DiskWrite.calls A c q.1 B d q.2.1 q.2.2.1 q.2.2.2 (at_ + i) (some ⟨gA, 0, none⟩) 64 (wrS seq P i) q'.1 q'.2.1 q'.2.2.1 q'.2.2.2 W HD.out.c0 HD.out.n0 HD.out.c1 HD.out.n1 hC (by omega) (m_DiskWrite_eq HOQ.out _ _ hq')
           rw [htl] at hdw
           refine hdw.mono ?_
           have HQ2 := Aside0.mk hq'
           clear hdw hC hq'
           rintro e W9 ⟨v0, v1, rfl, hR, hS, gb⟩
           obtain ⟨A', c', ea⟩ := Kd.R_slice hR
           obtain ⟨B', d', eb⟩ := Kd.S_slice hS
           subst ea
           subst eb
           have K9 := Aside0.mk (HD.out.below gb).box
           have n0 := Aside0.mk (HD.out.put (r3 := q'.2.2.1) (r4 := q'.2.2.2) gb hR hS)
           have n1 := Aside0.mk (blk_far (blk_far (blk_far (blk_far (blk_below K8.out gb) (p := ⟨g, 0, none⟩) (Nat.succ_ne_self g) (.slice A' q'.1.length c')) (p := ⟨g, 1, none⟩) (Nat.succ_ne_self g) (.slice B' q'.2.1.length d')) (p := ⟨g, 2, none⟩) (Nat.succ_ne_self g) (.int .i64 q'.2.2.1)) (p := ⟨g, 3, none⟩) (Nat.succ_ne_self g) (.bool q'.2.2.2))
           clear HD K8 z0 z1 z2 z3 y0 y1 y2 y3 hR hS gb
           obtain ⟨z0, z1, z2, z3, y0, y1, y2, y3⟩ := blk_cells4 K9.out
           have yl := blk_lt K9.out
           clear KA
           go_wp2_with fail
           go_roundg m
           case measure => omega
           case rel => exact ⟨i + 1, q', A', B', c', d', by rw [HW1.out], ⟨by rw [wrI_next at_ _ _ _ HIK.out, ← HQ.out, HQ2.out, if_neg CE.out]⟩, ⟨by have := HI.out; have := HIK.out; omega⟩, n0, n1⟩
     ·have cib : decide (i < recK P.length) = false := decide_eq_false ci
      have hiK : i = recK P.length := by have := HI.out; omega
      subst hiK
      clear ci
      obtain ⟨z0, z1, z2, z3, y0, y1, y2, y3⟩ := blk_cells4 HD.out.box
      go_wp2_with fail
      obtain ⟨q1, hq1⟩ : ∃ q1, q1 = dkS q := ⟨_, rfl⟩
      refine (impl_DiskSync.calls A c q.1 B d q.2.1 q.2.2.1 q.2.2.2 q1.1 q1.2.1 q1.2.2.1 q1.2.2.2 _ HD.out.c0 HD.out.n0 HD.out.c1 HD.out.n1 (m_DiskSync_eq HOQ.out hq1)).mono ?_
      have HM3 := Aside0.mk (show mWR l0 l1 a2 false at_ seq P = q1 by rw [HM.out, hq1, HQ.out]; unfold wrAll wrI; rw [if_neg (Nat.lt_irrefl _)])
      clear hq1
      rintro e W11 ⟨v0, v1, rfl, hR, hS, gb⟩
      obtain ⟨A, c, ea⟩ := Kd.R_slice hR
      obtain ⟨B, d, eb⟩ := Kd.S_slice hS
      obtain ⟨f1, f2, f3, f4, f5⟩ := fin_disk (r3 := q1.2.2.1) (r4 := q1.2.2.2) HD.out.b (Nat.le_succ_of_le HD.out.le) K8.out hR hS gb
      have F2 := Aside0.mk f2
      have F3 := Aside0.mk f3
      have F4 := Aside0.mk f4
      have F5 := Aside0.mk f5
      clear z0 z1 z2 z3 y0 y1 y2 y3
      obtain ⟨x0, x1, x2, x3, u0, u1, u2, u3⟩ := blk_cells4 f1
      have ul := blk_lt f1
      clear f1 f2 f3 f4 f5 hR hS gb
      generalize q1.1.length = n1 at ea
      generalize q1.2.1.length = n2 at eb
      subst ea
      subst eb
      go_wp2_with fail
      refine bodyPost_ret (results_cell_row rfl _ _ (g + 1) 25 _ (0, 0) _ rfl F2.out hu25 rfl (by kernel_rfl)) rfl ?_
      rw [HM3.out]
      exact ⟨_, _, rfl, F3.out, F4.out, F5.out⟩

/-! ### impl_WriteRec: function 37, proved by hand -/
-- needs record_any slow_any impl_Disk_powered.calls m_WriteRec.f fin_disk
-- import Derived.BigQuiet
theorem quiet_val {P : Program} {C : World → Prop} {a : Act} {o : Oper} {K : Act → Prop} {v : Value} (h : ∀ w, C w → (execOp a.eval o).run P w = .ok (.value v) w) (hk : K (a.put o.dst v)) : o.quiet P a C K :=
 ⟨v, fun w hw => by unfold Oper.quietAt; rw [h w hw]; exact ⟨rfl, rfl⟩, hk⟩
theorem quiet_call {P : Program} {C : World → Prop} {a : Act} {o : Oper} {K : Act → Prop} {v : Value} {f : FuncId} {args : Array Value} (hc : ∀ w, C w → Calls P f args w (fun e w'' => e = .returned v ∧ C w'')) (h : ∀ w, C w → (execOp a.eval o).run P w = .ok (.enter f args) w) (hk : K (a.put o.dst v)) : o.quiet P a C K :=
 ⟨v, fun w hw => by unfold Oper.quietAt; rw [h w hw]; exact ⟨rfl, hc w hw⟩, hk⟩
set_option maxHeartbeats 4000000 in
set_option maxRecDepth 100000 in
theorem clos_rec (lo b p1 p2 p3 : Nat) (w1 W : World) (l0 : List Int) (l1 : List S79) (a2 at_ seq : Int) (A3 : Option Addr) (c3 : Nat) (P : List Int) (hlo : lo ≤ b) (hw : w1.heap.size ≤ lo) (hW : Below w1.heap.size w1 W) (hC : Kd.C (Kd.int .u8) w1 A3 P.length P) (hc : P.length ≤ c3)
  (h1 : W.cell? ⟨p1, 0, none⟩ = some (.int .i64 at_)) (h2 : W.cell? ⟨p2, 0, none⟩ = some (.int .i64 seq)) (h3 : W.cell? ⟨p3, 0, none⟩ = some (.slice A3 P.length c3))
  (hwr : wrC l0 l1 a2 at_ seq P) (hfit : l1.length + recK P.length ≤ 2000) (hX : PowX lo b W l0 l1 a2 false W) :
  Calls Try.prog 86 #[.pointer (some ⟨b, 0, none⟩), .pointer (some ⟨p1, 0, none⟩), .pointer (some ⟨p2, 0, none⟩), .pointer (some ⟨p3, 0, none⟩)] W fun e W' => RecEnd lo b W (wrAll at_ (wrS seq P) (recK P.length) (l0, l1, a2, false)) e W' := by
 have HH := Aside0.mk (record_any lo b w1 W l0 l1 a2 at_ seq A3 c3 P hlo hw hW hC hc hwr hfit hX)
 clear hlo hw hW hC hc hwr hfit hX
 generalize wrAll at_ (wrS seq P) (recK P.length) (l0, l1, a2, false) = q at *
 go_enter Try.func86, Try.ntmps86
 go_wp2_with fail
 refine HH.out.mono ?_
 rintro e W' ⟨he, hX⟩
 by_cases hd : q.2.2.2 = true
 ·rw [if_pos hd] at he
  subst he
  have HX := Aside0.mk (show RecEnd lo b W q (.panicked [{ v := .iface 125 (.agg #[]), recovered := false }]) W' from ⟨by rw [if_pos hd], hX⟩)
  clear hX hd
  go_wp2_with fail
  exact ⟨rfl, HX.out⟩
 ·rw [if_neg hd] at he
  subst he
  have HX := Aside0.mk (show RecEnd lo b W q (.returned (.tuple #[])) W' from ⟨by rw [if_neg hd], hX⟩)
  clear hX hd
  go_wp2_with fail
  go_end0
  exact HX.out
set_option maxHeartbeats 4000000 in
set_option maxRecDepth 100000 in
theorem impl_WriteRec_any (A0 : Option Addr) (c0 : Nat) (l0 : List Int) (A1 : Option Addr) (c1 : Nat) (l1 : List S79) (a2 : Int) (a3 : Bool) (at_ seq : Int) (A3 : Option Addr) (c3 : Nat) (P : List Int) (w : World)
  (hr0 : Kd.C (Kd.int .u8) w A0 l0.length l0) (hc0 : l0.length ≤ c0) (hr1 : Kd.C k79 w A1 l1.length l1) (hc1 : l1.length ≤ c1) (hr3 : Kd.C (Kd.int .u8) w A3 P.length P) (hc3 : P.length ≤ c3) (h0 : l0.length ≤ 1048576) (hok : okPendS l1) (_hP : P.length ≤ 1048576) :
  Calls Try.prog 37 #[.agg #[.slice A0 l0.length c0, .slice A1 l1.length c1, .int .i64 a2, .bool a3], .int .i64 at_, .int .i64 seq, .slice A3 P.length c3] w fun e w' => ∃ v0 v1 : Value, e = .returned (.agg #[v0, v1, .int .i64 (mWR l0 l1 a2 a3 at_ seq P).2.2.1, .bool (mWR l0 l1 a2 a3 at_ seq P).2.2.2]) ∧ Kd.R (Kd.int .u8) 5 w' w.heap.size (fun _ => True) v0 (mWR l0 l1 a2 a3 at_ seq P).1 ∧ Kd.S k79 79 w' w.heap.size (fun k_ => some k_ ≠ v0.ownBlock) v1 (mWR l0 l1 a2 a3 at_ seq P).2.1 ∧ Below w.heap.size w w' := by
 obtain ⟨kv, hv⟩ := (implValid_ev l0 l1 a2 a3 h0 hok.1).rounds
 have HV := Aside0.mk hv
 have HR0 := Aside0.mk hr0
 have HC0 := Aside0.mk hc0
 have HR1 := Aside0.mk hr1
 have HC1 := Aside0.mk hc1
 have HR3 := Aside0.mk hr3
 have HC3 := Aside0.mk hc3
 have H0 := Aside0.mk h0
 have HOK := Aside0.mk hok
 clear hv hr0 hc0 hr1 hc1 hr3 hc3 h0 hok
 have hu25 := Try.underlying25
 have HB := Aside0.mk (Below.refl w.heap.size w)
 go_enter Try.func37, Try.ntmps37
 go_wp2_with fail
 refine (impl_RecSectors.calls _ _ _ (implRec_eq P.length)).mono ?_
 rintro e w1 ⟨rfl, gb⟩
 have K1 := Aside0.mk (show w1.heap[w.heap.size]? = some (.cells #[.slice A0 l0.length c0, .slice A1 l1.length c1, .int .i64 a2, .bool a3] 25 (0, 0)) from blk_below (blk_alloc (blk_alloc (blk_alloc (blk_alloc (blk_new _ _) _) _) _) _) gb)
 have K2 := Aside0.mk (show w1.heap[w.heap.size + 1]? = some (.cells #[.int .i64 at_] 2 (0, 0)) from blk_below (blk_alloc (blk_alloc (blk_alloc (by have h := blk_new (w.alloc (.cells #[.slice A0 l0.length c0, .slice A1 l1.length c1, .int .i64 a2, .bool a3] 25)) (.cells #[.int .i64 at_] 2); simpa using h) _) _) _) gb)
 have K3 := Aside0.mk (show w1.heap[w.heap.size + 1 + 1]? = some (.cells #[.int .i64 seq] 2 (0, 0)) from blk_below (blk_alloc (blk_alloc (by have h := blk_new ((w.alloc (.cells #[.slice A0 l0.length c0, .slice A1 l1.length c1, .int .i64 a2, .bool a3] 25)).alloc (.cells #[.int .i64 at_] 2)) (.cells #[.int .i64 seq] 2); simpa using h) _) _) gb)
 have K4 := Aside0.mk (show w1.heap[w.heap.size + 1 + 1 + 1]? = some (.cells #[.slice A3 P.length c3] 22 (0, 0)) from blk_below (blk_alloc (by have h := blk_new (((w.alloc (.cells #[.slice A0 l0.length c0, .slice A1 l1.length c1, .int .i64 a2, .bool a3] 25)).alloc (.cells #[.int .i64 at_] 2)).alloc (.cells #[.int .i64 seq] 2)) (.cells #[.slice A3 P.length c3] 22); simpa using h) _) gb)
 have K8 := Aside0.mk (show w1.heap[w.heap.size + 1 + 1 + 1 + 1]? = some (.cells #[.slice none 0 0, .slice none 0 0, .int .i64 0, .bool false] 25 (0, 0)) from blk_below (by have h := blk_new ((((w.alloc (.cells #[.slice A0 l0.length c0, .slice A1 l1.length c1, .int .i64 a2, .bool a3] 25)).alloc (.cells #[.int .i64 at_] 2)).alloc (.cells #[.int .i64 seq] 2)).alloc (.cells #[.slice A3 P.length c3] 22)) (.cells #[.slice none 0 0, .slice none 0 0, .int .i64 0, .bool false] 25); simpa using h) gb)
 replace HB := Aside0.mk (below_step (below_alloc (below_alloc (below_alloc (below_alloc (below_alloc HB.out _) _) _) _) _) gb)
 clear gb
 go_upto_region 2 with (fail)
 go_cut [48] (fun v48 wc => ∃ bad : Bool, v48 = .bool bad ∧ Aside0 (bad = false → wrC l0 l1 a2 at_ seq P ∧ a3 = false ∧ l1.length + recK P.length ≤ 2000) ∧ Aside0 (wc.heap[w.heap.size]? = some (.cells #[.slice A0 l0.length c0, .slice A1 l1.length c1, .int .i64 a2, .bool a3] 25 (0, 0))) ∧ Aside0 (wc.heap[w.heap.size + 1]? = some (.cells #[.int .i64 at_] 2 (0, 0))) ∧ Aside0 (wc.heap[w.heap.size + 1 + 1]? = some (.cells #[.int .i64 seq] 2 (0, 0))) ∧ Aside0 (wc.heap[w.heap.size + 1 + 1 + 1]? = some (.cells #[.slice A3 P.length c3] 22 (0, 0))) ∧ Aside0 (wc.heap[w.heap.size + 1 + 1 + 1 + 1]? = some (.cells #[.slice none 0 0, .slice none 0 0, .int .i64 0, .bool false] 25 (0, 0))) ∧ Aside0 (Below w.heap.size w wc))
 case first =>
  obtain ⟨C, hCd⟩ : ∃ C : World → Prop, C = fun W => W.heap[w.heap.size]? = some (.cells #[.slice A0 l0.length c0, .slice A1 l1.length c1, .int .i64 a2, .bool a3] 25 (0, 0)) ∧ W.heap[w.heap.size + 1]? = some (.cells #[.int .i64 at_] 2 (0, 0)) ∧ W.heap[w.heap.size + 1 + 1]? = some (.cells #[.int .i64 seq] 2 (0, 0)) ∧ W.heap[w.heap.size + 1 + 1 + 1]? = some (.cells #[.slice A3 P.length c3] 22 (0, 0)) ∧ W.heap[w.heap.size + 1 + 1 + 1 + 1]? = some (.cells #[.slice none 0 0, .slice none 0 0, .int .i64 0, .bool false] 25 (0, 0)) ∧ Below w.heap.size w W := ⟨_, rfl⟩
  have HCE := Aside0.mk (show ∀ W, C W → W.heap[w.heap.size]? = some (.cells #[.slice A0 l0.length c0, .slice A1 l1.length c1, .int .i64 a2, .bool a3] 25 (0, 0)) ∧ W.heap[w.heap.size + 1]? = some (.cells #[.int .i64 at_] 2 (0, 0)) ∧ W.heap[w.heap.size + 1 + 1]? = some (.cells #[.int .i64 seq] 2 (0, 0)) ∧ W.heap[w.heap.size + 1 + 1 + 1]? = some (.cells #[.slice A3 P.length c3] 22 (0, 0)) ∧ W.heap[w.heap.size + 1 + 1 + 1 + 1]? = some (.cells #[.slice none 0 0, .slice none 0 0, .int .i64 0, .bool false] 25 (0, 0)) ∧ Below w.heap.size w W from fun W h => by rw [hCd] at h; exact h)
  have HCS := Aside0.mk (show ∀ W W' : World, Below W.heap.size W W' → C W → C W' from fun W W' hb h => by
    rw [hCd] at h ⊢
    exact ⟨blk_below h.1 hb, blk_below h.2.1 hb, blk_below h.2.2.1 hb, blk_below h.2.2.2.1 hb, blk_below h.2.2.2.2.1 hb, below_step h.2.2.2.2.2 hb⟩)
  have HCW := Aside0.mk (show C w1 by rw [hCd]; exact ⟨K1.out, K2.out, K3.out, K4.out, K8.out, HB.out⟩)
  clear hCd K1 K2 K3 K4 K8 HB
  have HCL := Aside0.mk (show ∀ W, C W → W.cell? ⟨w.heap.size, 0, none⟩ = some (.slice A0 l0.length c0) ∧ W.cell? ⟨w.heap.size, 1, none⟩ = some (.slice A1 l1.length c1) ∧ W.cell? ⟨w.heap.size, 2, none⟩ = some (.int .i64 a2) ∧ W.cell? ⟨w.heap.size, 3, none⟩ = some (.bool a3) ∧ W.cell? ⟨w.heap.size + 1, 0, none⟩ = some (.int .i64 at_) ∧ W.cell? ⟨w.heap.size + 1 + 1, 0, none⟩ = some (.int .i64 seq) from fun W h => by
    obtain ⟨k1, k2, k3, k4, k8, hb⟩ := HCE.out W h
    exact ⟨(blk_cell k1 0).trans rfl, (blk_cell k1 1).trans rfl, (blk_cell k1 2).trans rfl, (blk_cell k1 3).trans rfl, (blk_cell k2 0).trans rfl, (blk_cell k3 0).trans rfl⟩)
  obtain ⟨S, hSd⟩ : ∃ S : Int, S = ((l0.length / 64 : Nat) : Int) := ⟨_, rfl⟩
  have hcv := fun W (h : C W) => (impl_ValidDisk.calls kv A0 c0 l0 A1 c1 l1 a2 a3 _ W (Kd.C_below HR0.out (HCE.out W h).2.2.2.2.2) HC0.out (Kd.C_below HR1.out (HCE.out W h).2.2.2.2.2) HC1.out HV.out).mono (fun e w' hh => And.intro hh.1 (HCS.out W w' hh.2 h))
  have hcg := fun W (h : C W) => (impl_goodNumber.calls seq (gN seq) W (goodN_eq seq)).mono (fun e w' hh => And.intro hh.1 (HCS.out W w' hh.2.below h))
  have hcx := fun W (h : C W) => (impl_Disk_sectors.calls A0 c0 l0 A1 c1 l1 a2 a3 S W (Kd.C_below HR0.out (HCE.out W h).2.2.2.2.2) HC0.out (Kd.C_below HR1.out (HCE.out W h).2.2.2.2.2) HC1.out (by unfold impl_Disk_sectors.f; rw [sectors_at l0 H0.out, hSd])).mono (fun e w' hh => And.intro hh.1 (HCS.out W w' hh.2 h))
  by_cases cv : vD l0 l1 a2 = true
  case neg =>
    have cv' : vD l0 l1 a2 = false := by simpa using cv
    rw [cv'] at hcv
    have HCV := Aside0.mk hcv
    have HCG := Aside0.mk hcg
    have HCX := Aside0.mk hcx
    clear hcv hcg hcx cv cv'
    refine wp_region_quiet (C := C) (by kernel_rfl) (by kernel_rfl) (HCS.out _ _ (below_drew1 (Below.refl _ _)) HCW.out) ?_
    simp only []
    repeat (
     first
     | (go_big_quiet_skip)
     | (
       go_big_quiet_want
       first
       | (refine quiet_val (v := ?_) (fun W_ hW_ => ?_) ?_; rotate_left; (focus (go_simp; with_reducible rfl)); go_big_quiet_on; simp only [Act.put, List.setIfInBounds_toArray, List.set_cons_zero, List.set_cons_succ, i64_w, i32_w])
       | (refine quiet_val (v := ?_) (fun W_ hW_ => ?_) ?_; rotate_left; (focus (obtain ⟨z0, z1, z2, z3, z4, z5⟩ := HCL.out W_ hW_; go_simp; with_reducible rfl)); go_big_quiet_on; simp only [Act.put, List.setIfInBounds_toArray, List.set_cons_zero, List.set_cons_succ, i64_w, i32_w])
       | (refine quiet_call HCV.out (fun W_ hW_ => ?_) ?_; (focus (go_simp; done)); go_big_quiet_on; simp only [Act.put, List.setIfInBounds_toArray, List.set_cons_zero, List.set_cons_succ, i64_w, i32_w])
       | (refine quiet_call HCG.out (fun W_ hW_ => ?_) ?_; (focus (go_simp; done)); go_big_quiet_on; simp only [Act.put, List.setIfInBounds_toArray, List.set_cons_zero, List.set_cons_succ, i64_w, i32_w])
       | (refine quiet_call HCX.out (fun W_ hW_ => ?_) ?_; (focus (go_simp; done)); go_big_quiet_on; simp only [Act.put, List.setIfInBounds_toArray, List.set_cons_zero, List.set_cons_succ, i64_w, i32_w])))
    refine wpQuiet_nil ?_
    intro wc hC
    obtain ⟨k1, k2, k3, k4, k8, hb⟩ := HCE.out wc hC
    clear hC
    go_wp2_with fail
    go_meet
    case rel => exact ⟨true, rfl, ⟨fun h => by cases h⟩, ⟨k1⟩, ⟨k2⟩, ⟨k3⟩, ⟨k4⟩, ⟨k8⟩, ⟨hb⟩⟩
  rw [cv] at hcv
  have HSD := Aside0.mk hSd
  have CV := Aside0.mk cv
  have HCV := Aside0.mk hcv
  clear hcv cv hSd
  cases a3 with
  | true =>
    have HCG := Aside0.mk hcg
    have HCX := Aside0.mk hcx
    clear hcg hcx
    refine wp_region_quiet (C := C) (by kernel_rfl) (by kernel_rfl) (HCS.out _ _ (below_drew1 (Below.refl _ _)) HCW.out) ?_
    simp only []
    repeat (
     first
     | (go_big_quiet_skip)
     | (
       go_big_quiet_want
       first
       | (refine quiet_val (v := ?_) (fun W_ hW_ => ?_) ?_; rotate_left; (focus (go_simp; with_reducible rfl)); go_big_quiet_on; simp only [Act.put, List.setIfInBounds_toArray, List.set_cons_zero, List.set_cons_succ, i64_w, i32_w])
       | (refine quiet_val (v := ?_) (fun W_ hW_ => ?_) ?_; rotate_left; (focus (obtain ⟨z0, z1, z2, z3, z4, z5⟩ := HCL.out W_ hW_; go_simp; with_reducible rfl)); go_big_quiet_on; simp only [Act.put, List.setIfInBounds_toArray, List.set_cons_zero, List.set_cons_succ, i64_w, i32_w])
       | (refine quiet_call HCV.out (fun W_ hW_ => ?_) ?_; (focus (go_simp; done)); go_big_quiet_on; simp only [Act.put, List.setIfInBounds_toArray, List.set_cons_zero, List.set_cons_succ, i64_w, i32_w])
       | (refine quiet_call HCG.out (fun W_ hW_ => ?_) ?_; (focus (go_simp; done)); go_big_quiet_on; simp only [Act.put, List.setIfInBounds_toArray, List.set_cons_zero, List.set_cons_succ, i64_w, i32_w])
       | (refine quiet_call HCX.out (fun W_ hW_ => ?_) ?_; (focus (go_simp; done)); go_big_quiet_on; simp only [Act.put, List.setIfInBounds_toArray, List.set_cons_zero, List.set_cons_succ, i64_w, i32_w])))
    refine wpQuiet_nil ?_
    intro wc hC
    obtain ⟨k1, k2, k3, k4, k8, hb⟩ := HCE.out wc hC
    clear hC
    go_wp2_with fail
    go_meet
    case rel => exact ⟨true, rfl, ⟨fun h => by cases h⟩, ⟨k1⟩, ⟨k2⟩, ⟨k3⟩, ⟨k4⟩, ⟨k8⟩, ⟨hb⟩⟩
  | false =>
    have HCX := Aside0.mk hcx
    clear hcx
    by_cases cg : gN seq = true
    case neg =>
     have cg' : gN seq = false := by simpa using cg
     rw [cg'] at hcg
     have HCG := Aside0.mk hcg
     clear hcg cg cg'
     refine wp_region_quiet (C := C) (by kernel_rfl) (by kernel_rfl) (HCS.out _ _ (below_drew1 (Below.refl _ _)) HCW.out) ?_
     simp only []
     repeat (
       first
       | (go_big_quiet_skip)
       | (
         go_big_quiet_want
         first
         | (refine quiet_val (v := ?_) (fun W_ hW_ => ?_) ?_; rotate_left; (focus (go_simp; with_reducible rfl)); go_big_quiet_on; simp only [Act.put, List.setIfInBounds_toArray, List.set_cons_zero, List.set_cons_succ, i64_w, i32_w])
         | (refine quiet_val (v := ?_) (fun W_ hW_ => ?_) ?_; rotate_left; (focus (obtain ⟨z0, z1, z2, z3, z4, z5⟩ := HCL.out W_ hW_; go_simp; with_reducible rfl)); go_big_quiet_on; simp only [Act.put, List.setIfInBounds_toArray, List.set_cons_zero, List.set_cons_succ, i64_w, i32_w])
         | (refine quiet_call HCV.out (fun W_ hW_ => ?_) ?_; (focus (go_simp; done)); go_big_quiet_on; simp only [Act.put, List.setIfInBounds_toArray, List.set_cons_zero, List.set_cons_succ, i64_w, i32_w])
         | (refine quiet_call HCG.out (fun W_ hW_ => ?_) ?_; (focus (go_simp; done)); go_big_quiet_on; simp only [Act.put, List.setIfInBounds_toArray, List.set_cons_zero, List.set_cons_succ, i64_w, i32_w])
         | (refine quiet_call HCX.out (fun W_ hW_ => ?_) ?_; (focus (go_simp; done)); go_big_quiet_on; simp only [Act.put, List.setIfInBounds_toArray, List.set_cons_zero, List.set_cons_succ, i64_w, i32_w])))
     refine wpQuiet_nil ?_
     intro wc hC
     obtain ⟨k1, k2, k3, k4, k8, hb⟩ := HCE.out wc hC
     clear hC
     go_wp2_with fail
     go_meet
     case rel => exact ⟨true, rfl, ⟨fun h => by cases h⟩, ⟨k1⟩, ⟨k2⟩, ⟨k3⟩, ⟨k4⟩, ⟨k8⟩, ⟨hb⟩⟩
    rw [cg] at hcg
    have HCG := Aside0.mk hcg
    have CG := Aside0.mk cg
    clear hcg cg
    by_cases ck : recI P.length = 0
    ·have ckb : (recI P.length == 0) = true := by simpa using ck
     clear ck
     refine wp_region_quiet (C := C) (by kernel_rfl) (by kernel_rfl) (HCS.out _ _ (below_drew1 (Below.refl _ _)) HCW.out) ?_
     simp only []
     repeat (
       first
       | (go_big_quiet_skip)
       | (
         go_big_quiet_want
         first
         | (refine quiet_val (v := ?_) (fun W_ hW_ => ?_) ?_; rotate_left; (focus (go_simp; with_reducible rfl)); go_big_quiet_on; simp only [Act.put, List.setIfInBounds_toArray, List.set_cons_zero, List.set_cons_succ, i64_w, i32_w])
         | (refine quiet_val (v := ?_) (fun W_ hW_ => ?_) ?_; rotate_left; (focus (obtain ⟨z0, z1, z2, z3, z4, z5⟩ := HCL.out W_ hW_; go_simp; with_reducible rfl)); go_big_quiet_on; simp only [Act.put, List.setIfInBounds_toArray, List.set_cons_zero, List.set_cons_succ, i64_w, i32_w])
         | (refine quiet_call HCV.out (fun W_ hW_ => ?_) ?_; (focus (go_simp; done)); go_big_quiet_on; simp only [Act.put, List.setIfInBounds_toArray, List.set_cons_zero, List.set_cons_succ, i64_w, i32_w])
         | (refine quiet_call HCG.out (fun W_ hW_ => ?_) ?_; (focus (go_simp; done)); go_big_quiet_on; simp only [Act.put, List.setIfInBounds_toArray, List.set_cons_zero, List.set_cons_succ, i64_w, i32_w])
         | (refine quiet_call HCX.out (fun W_ hW_ => ?_) ?_; (focus (go_simp; done)); go_big_quiet_on; simp only [Act.put, List.setIfInBounds_toArray, List.set_cons_zero, List.set_cons_succ, i64_w, i32_w])))
     refine wpQuiet_nil ?_
     intro wc hC
     obtain ⟨k1, k2, k3, k4, k8, hb⟩ := HCE.out wc hC
     clear hC
     go_wp2_with fail
     go_meet
     case rel => exact ⟨true, rfl, ⟨fun h => by cases h⟩, ⟨k1⟩, ⟨k2⟩, ⟨k3⟩, ⟨k4⟩, ⟨k8⟩, ⟨hb⟩⟩
    have CK := Aside0.mk (recI_ne ck)
    have ckb : (recI P.length == 0) = false := by simpa using ck
    clear ck
    by_cases c2 : at_ < 2
    ·have c2b : decide (at_ < 2) = true := decide_eq_true c2
     clear c2
     refine wp_region_quiet (C := C) (by kernel_rfl) (by kernel_rfl) (HCS.out _ _ (below_drew1 (Below.refl _ _)) HCW.out) ?_
     simp only []
     repeat (
       first
       | (go_big_quiet_skip)
       | (
         go_big_quiet_want
         first
         | (refine quiet_val (v := ?_) (fun W_ hW_ => ?_) ?_; rotate_left; (focus (go_simp; with_reducible rfl)); go_big_quiet_on; simp only [Act.put, List.setIfInBounds_toArray, List.set_cons_zero, List.set_cons_succ, i64_w, i32_w])
         | (refine quiet_val (v := ?_) (fun W_ hW_ => ?_) ?_; rotate_left; (focus (obtain ⟨z0, z1, z2, z3, z4, z5⟩ := HCL.out W_ hW_; go_simp; with_reducible rfl)); go_big_quiet_on; simp only [Act.put, List.setIfInBounds_toArray, List.set_cons_zero, List.set_cons_succ, i64_w, i32_w])
         | (refine quiet_call HCV.out (fun W_ hW_ => ?_) ?_; (focus (go_simp; done)); go_big_quiet_on; simp only [Act.put, List.setIfInBounds_toArray, List.set_cons_zero, List.set_cons_succ, i64_w, i32_w])
         | (refine quiet_call HCG.out (fun W_ hW_ => ?_) ?_; (focus (go_simp; done)); go_big_quiet_on; simp only [Act.put, List.setIfInBounds_toArray, List.set_cons_zero, List.set_cons_succ, i64_w, i32_w])
         | (refine quiet_call HCX.out (fun W_ hW_ => ?_) ?_; (focus (go_simp; done)); go_big_quiet_on; simp only [Act.put, List.setIfInBounds_toArray, List.set_cons_zero, List.set_cons_succ, i64_w, i32_w])))
     refine wpQuiet_nil ?_
     intro wc hC
     obtain ⟨k1, k2, k3, k4, k8, hb⟩ := HCE.out wc hC
     clear hC
     go_wp2_with fail
     go_meet
     case rel => exact ⟨true, rfl, ⟨fun h => by cases h⟩, ⟨k1⟩, ⟨k2⟩, ⟨k3⟩, ⟨k4⟩, ⟨k8⟩, ⟨hb⟩⟩
    have c2b : decide (at_ < 2) = false := decide_eq_false c2
    have C2 := Aside0.mk c2
    clear c2
    by_cases c3 : wrap64 (S - recI P.length) < at_
    ·have c3b : decide (wrap64 (S - recI P.length) < at_) = true := decide_eq_true c3
     clear c3
     refine wp_region_quiet (C := C) (by kernel_rfl) (by kernel_rfl) (HCS.out _ _ (below_drew1 (Below.refl _ _)) HCW.out) ?_
     simp only []
     repeat (
       first
       | (go_big_quiet_skip)
       | (
         go_big_quiet_want
         first
         | (refine quiet_val (v := ?_) (fun W_ hW_ => ?_) ?_; rotate_left; (focus (go_simp; with_reducible rfl)); go_big_quiet_on; simp only [Act.put, List.setIfInBounds_toArray, List.set_cons_zero, List.set_cons_succ, i64_w, i32_w])
         | (refine quiet_val (v := ?_) (fun W_ hW_ => ?_) ?_; rotate_left; (focus (obtain ⟨z0, z1, z2, z3, z4, z5⟩ := HCL.out W_ hW_; go_simp; with_reducible rfl)); go_big_quiet_on; simp only [Act.put, List.setIfInBounds_toArray, List.set_cons_zero, List.set_cons_succ, i64_w, i32_w])
         | (refine quiet_call HCV.out (fun W_ hW_ => ?_) ?_; (focus (go_simp; done)); go_big_quiet_on; simp only [Act.put, List.setIfInBounds_toArray, List.set_cons_zero, List.set_cons_succ, i64_w, i32_w])
         | (refine quiet_call HCG.out (fun W_ hW_ => ?_) ?_; (focus (go_simp; done)); go_big_quiet_on; simp only [Act.put, List.setIfInBounds_toArray, List.set_cons_zero, List.set_cons_succ, i64_w, i32_w])
         | (refine quiet_call HCX.out (fun W_ hW_ => ?_) ?_; (focus (go_simp; done)); go_big_quiet_on; simp only [Act.put, List.setIfInBounds_toArray, List.set_cons_zero, List.set_cons_succ, i64_w, i32_w])))
     refine wpQuiet_nil ?_
     intro wc hC
     obtain ⟨k1, k2, k3, k4, k8, hb⟩ := HCE.out wc hC
     clear hC
     go_wp2_with fail
     go_meet
     case rel => exact ⟨true, rfl, ⟨fun h => by cases h⟩, ⟨k1⟩, ⟨k2⟩, ⟨k3⟩, ⟨k4⟩, ⟨k8⟩, ⟨hb⟩⟩
    have c3b : decide (wrap64 (S - recI P.length) < at_) = false := decide_eq_false c3
    have C3 := Aside0.mk c3
    clear c3
    by_cases c7 : 2000 < wrap64 ((l1.length : Int) + recI P.length)
    ·have c7b : decide (2000 < wrap64 ((l1.length : Int) + recI P.length)) = true := decide_eq_true c7
     clear c7
     refine wp_region_quiet (C := C) (by kernel_rfl) (by kernel_rfl) (HCS.out _ _ (below_drew1 (Below.refl _ _)) HCW.out) ?_
     simp only []
     repeat (
       first
       | (go_big_quiet_skip)
       | (
         go_big_quiet_want
         first
         | (refine quiet_val (v := ?_) (fun W_ hW_ => ?_) ?_; rotate_left; (focus (go_simp; with_reducible rfl)); go_big_quiet_on; simp only [Act.put, List.setIfInBounds_toArray, List.set_cons_zero, List.set_cons_succ, i64_w, i32_w])
         | (refine quiet_val (v := ?_) (fun W_ hW_ => ?_) ?_; rotate_left; (focus (obtain ⟨z0, z1, z2, z3, z4, z5⟩ := HCL.out W_ hW_; go_simp; with_reducible rfl)); go_big_quiet_on; simp only [Act.put, List.setIfInBounds_toArray, List.set_cons_zero, List.set_cons_succ, i64_w, i32_w])
         | (refine quiet_call HCV.out (fun W_ hW_ => ?_) ?_; (focus (go_simp; done)); go_big_quiet_on; simp only [Act.put, List.setIfInBounds_toArray, List.set_cons_zero, List.set_cons_succ, i64_w, i32_w])
         | (refine quiet_call HCG.out (fun W_ hW_ => ?_) ?_; (focus (go_simp; done)); go_big_quiet_on; simp only [Act.put, List.setIfInBounds_toArray, List.set_cons_zero, List.set_cons_succ, i64_w, i32_w])
         | (refine quiet_call HCX.out (fun W_ hW_ => ?_) ?_; (focus (go_simp; done)); go_big_quiet_on; simp only [Act.put, List.setIfInBounds_toArray, List.set_cons_zero, List.set_cons_succ, i64_w, i32_w])))
     refine wpQuiet_nil ?_
     intro wc hC
     obtain ⟨k1, k2, k3, k4, k8, hb⟩ := HCE.out wc hC
     clear hC
     go_wp2_with fail
     go_meet
     case rel => exact ⟨true, rfl, ⟨fun h => by cases h⟩, ⟨k1⟩, ⟨k2⟩, ⟨k3⟩, ⟨k4⟩, ⟨k8⟩, ⟨hb⟩⟩
    have c7b : decide (2000 < wrap64 ((l1.length : Int) + recI P.length)) = false := decide_eq_false c7
    have C7 := Aside0.mk c7
    clear c7
    refine wp_region_quiet (C := C) (by kernel_rfl) (by kernel_rfl) (HCS.out _ _ (below_drew1 (Below.refl _ _)) HCW.out) ?_
    simp only []
    repeat (
     first
     | (go_big_quiet_skip)
     | (
       go_big_quiet_want
       first
       | (refine quiet_val (v := ?_) (fun W_ hW_ => ?_) ?_; rotate_left; (focus (go_simp; with_reducible rfl)); go_big_quiet_on; simp only [Act.put, List.setIfInBounds_toArray, List.set_cons_zero, List.set_cons_succ, i64_w, i32_w])
       | (refine quiet_val (v := ?_) (fun W_ hW_ => ?_) ?_; rotate_left; (focus (obtain ⟨z0, z1, z2, z3, z4, z5⟩ := HCL.out W_ hW_; go_simp; with_reducible rfl)); go_big_quiet_on; simp only [Act.put, List.setIfInBounds_toArray, List.set_cons_zero, List.set_cons_succ, i64_w, i32_w])
       | (refine quiet_call HCV.out (fun W_ hW_ => ?_) ?_; (focus (go_simp; done)); go_big_quiet_on; simp only [Act.put, List.setIfInBounds_toArray, List.set_cons_zero, List.set_cons_succ, i64_w, i32_w])
       | (refine quiet_call HCG.out (fun W_ hW_ => ?_) ?_; (focus (go_simp; done)); go_big_quiet_on; simp only [Act.put, List.setIfInBounds_toArray, List.set_cons_zero, List.set_cons_succ, i64_w, i32_w])
       | (refine quiet_call HCX.out (fun W_ hW_ => ?_) ?_; (focus (go_simp; done)); go_big_quiet_on; simp only [Act.put, List.setIfInBounds_toArray, List.set_cons_zero, List.set_cons_succ, i64_w, i32_w])))
    refine wpQuiet_nil ?_
    intro wc hC
    obtain ⟨k1, k2, k3, k4, k8, hb⟩ := HCE.out wc hC
    clear hC
    go_wp2_with fail
    go_meet
    case rel => exact ⟨false, rfl, ⟨fun _ => by
       have h1 := CK.out
       have h2 := C2.out
       have h3 := C3.out
       have h7 := C7.out
       have h8 := recK_le P.length h1.1
       have h9 := (vD_facts CV.out)
       have h0 := HOK.out.1
       rw [h1.2, HSD.out] at h3
       rw [h1.2] at h7
       rw [show wrap64 (((l0.length / 64 : Nat) : Int) - (recK P.length : Int)) = ((l0.length / 64 : Nat) : Int) - recK P.length by have := H0.out; unfold wrap64; omega] at h3
       rw [show wrap64 ((l1.length : Int) + (recK P.length : Int)) = l1.length + recK P.length by unfold wrap64; omega] at h7
       exact ⟨⟨CV.out, CG.out, h1.1, by omega, by omega⟩, by trivial, by omega⟩⟩, ⟨k1⟩, ⟨k2⟩, ⟨k3⟩, ⟨k4⟩, ⟨k8⟩, ⟨hb⟩⟩
 case rest =>
  clear K1 K2 K3 K4 K8 HB
  obtain ⟨bad, rfl, HBAD, K1, K2, K3, K4, K8, HB⟩ := hcut
  obtain ⟨z0, z1, z2, z3, y0, y1, y2, y3⟩ := blk_cells4 K1.out
  have sa : wc.cell? ⟨w.heap.size + 1, 0, none⟩ = some (.int .i64 at_) := (blk_cell K2.out 0).trans rfl
  have sq : wc.cell? ⟨w.heap.size + 1 + 1, 0, none⟩ = some (.int .i64 seq) := (blk_cell K3.out 0).trans rfl
  have sp : wc.cell? ⟨w.heap.size + 1 + 1 + 1, 0, none⟩ = some (.slice A3 P.length c3) := (blk_cell K4.out 0).trans rfl
  have hc0 := Kd.C_below HR0.out HB.out
  have hc1 := Kd.C_below HR1.out HB.out
  have hc3 := Kd.C_below HR3.out HB.out
  cases bad with
  | true =>
    have hs := slow_any A0 c0 l0 A1 c1 l1 a2 a3 at_ seq A3 c3 P wc hc0 HC0.out hc1 HC1.out hc3 HC3.out H0.out HOK.out
    obtain ⟨q, hq⟩ : ∃ q, q = mWR l0 l1 a2 a3 at_ seq P := ⟨_, rfl⟩
    rw [← hq] at hs
    have HQ := Aside0.mk hq
    clear hq
    have HS := Aside0.mk hs
    clear hs hc0 hc1 hc3
    go_wp2_with fail
    refine HS.out.mono ?_
    rintro e w7 ⟨v0, v1, rfl, hR, hS, gb⟩
    obtain ⟨A, c, ea⟩ := Kd.R_slice hR
    obtain ⟨B, d, eb⟩ := Kd.S_slice hS
    obtain ⟨f1, f2, f3, f4, f5⟩ := fin_disk (r3 := q.2.2.1) (r4 := q.2.2.2) HB.out (by omega) K8.out hR hS gb
    have F2 := Aside0.mk f2
    have F3 := Aside0.mk f3
    have F4 := Aside0.mk f4
    have F5 := Aside0.mk f5
    clear z0 z1 z2 z3 y0 y1 y2 y3 sa sq sp
    obtain ⟨x0, x1, x2, x3, u0, u1, u2, u3⟩ := blk_cells4 f1
    have ul := blk_lt f1
    clear f1 f2 f3 f4 f5 hR hS gb
    generalize q.1.length = n1 at ea
    generalize q.2.1.length = n2 at eb
    subst ea
    subst eb
    go_wp2_with fail
    refine bodyPost_ret (results_cell_row rfl _ _ (w.heap.size + 1 + 1 + 1 + 1) 25 _ (0, 0) _ rfl F2.out hu25 rfl (by kernel_rfl)) rfl ?_
    rw [← HQ.out]
    exact ⟨_, _, rfl, F3.out, F4.out, F5.out⟩
  | false =>
    obtain ⟨hw, rfl, hfit⟩ := HBAD.out rfl
    have hm : mWR l0 l1 a2 false at_ seq P = wrAll at_ (wrS seq P) (recK P.length) (l0, l1, a2, false) := by unfold mWR; rw [if_pos hw]
    have pw : Calls Try.prog 57 #[.agg #[.slice A0 l0.length c0, .slice A1 l1.length c1, .int .i64 a2, .bool false], .func (.func 86) #[] #[.pointer (some ⟨w.heap.size + 1, 0, none⟩), .pointer (some ⟨w.heap.size + 1 + 1, 0, none⟩), .pointer (some ⟨w.heap.size + 1 + 1 + 1, 0, none⟩)]] wc fun e w' => ∃ v0_ v1_ : Value, e = .returned (.agg #[v0_, v1_, .int .i64 (mWR l0 l1 a2 false at_ seq P).2.2.1, .bool (mWR l0 l1 a2 false at_ seq P).2.2.2]) ∧ Kd.R (Kd.int .u8) 5 w' wc.heap.size (fun _ => True) v0_ (mWR l0 l1 a2 false at_ seq P).1 ∧ Kd.S k79 79 w' wc.heap.size (fun k_ => some k_ ≠ (v0_ : Value).ownBlock) v1_ (mWR l0 l1 a2 false at_ seq P).2.1 ∧ Below wc.heap.size wc w' := by
     have hcf : ∀ (args : Array Value) (W : World), (callFunc 86 args).run Try.prog W = .ok (.enter 86 args) W := fun args W => by simp [go_sem]
     rw [hm]
     have := impl_Disk_powered.calls 86 #[.pointer (some ⟨w.heap.size + 1, 0, none⟩), .pointer (some ⟨w.heap.size + 1 + 1, 0, none⟩), .pointer (some ⟨w.heap.size + 1 + 1 + 1, 0, none⟩)] hcf A0 c0 l0 A1 c1 l1 a2 false wc hc0 HC0.out hc1 HC1.out H0.out HOK.out (wrAll at_ (wrS seq P) (recK P.length) (l0, l1, a2, false)).2.2.2 (wrAll at_ (wrS seq P) (recK P.length) (l0, l1, a2, false)).1 (wrAll at_ (wrS seq P) (recK P.length) (l0, l1, a2, false)).2.1 (wrAll at_ (wrS seq P) (recK P.length) (l0, l1, a2, false)).2.2.1 false
       (fun lo b W h1 h2 hW hX => clos_rec lo b _ _ _ wc W l0 l1 a2 at_ seq A3 c3 P h2 h1 hW hc3 HC3.out (pw_cell_below hW sa) (pw_cell_below hW sq) (pw_cell_below hW sp) hw hfit hX)
     rw [Bool.false_or] at this
     exact this
    obtain ⟨q, hq⟩ : ∃ q, q = mWR l0 l1 a2 false at_ seq P := ⟨_, rfl⟩
    rw [← hq] at pw
    have HQ := Aside0.mk hq
    clear hq
    have HS := Aside0.mk pw
    clear pw hc0 hc1 hc3 hw hfit hm
    go_wp2_with fail
    refine HS.out.mono ?_
    rintro e w7 ⟨v0, v1, rfl, hR, hS, gb⟩
    obtain ⟨A, c, ea⟩ := Kd.R_slice hR
    obtain ⟨B, d, eb⟩ := Kd.S_slice hS
    obtain ⟨f1, f2, f3, f4, f5⟩ := fin_disk (r3 := q.2.2.1) (r4 := q.2.2.2) HB.out (by omega) K8.out hR hS gb
    have F2 := Aside0.mk f2
    have F3 := Aside0.mk f3
    have F4 := Aside0.mk f4
    have F5 := Aside0.mk f5
    clear z0 z1 z2 z3 y0 y1 y2 y3 sa sq sp
    obtain ⟨x0, x1, x2, x3, u0, u1, u2, u3⟩ := blk_cells4 f1
    have ul := blk_lt f1
    clear f1 f2 f3 f4 f5 hR hS gb
    generalize q.1.length = n1 at ea
    generalize q.2.1.length = n2 at eb
    subst ea
    subst eb
    go_wp2_with fail
    refine bodyPost_ret (results_cell_row rfl _ _ (w.heap.size + 1 + 1 + 1 + 1) 25 _ (0, 0) _ rfl F2.out hu25 rfl (by kernel_rfl)) rfl ?_
    rw [← HQ.out]
    exact ⟨_, _, rfl, F3.out, F4.out, F5.out⟩
theorem impl_WriteRec.calls (k : Nat) (A0_0 : Option Addr) (c0_0 : Nat) (l0_0 : List Int) (A0_1 : Option Addr) (c0_1 : Nat) (l0_1 : List (S79)) (a0_2 : Int) (a0_3 : Bool) (a1 : Int) (a2 : Int) (A3 : Option Addr) (c3 : Nat) (l3 : List Int) (r1 : List Int) (r2 : List (S79)) (r3 : Int) (r4 : Bool) (w : World) (hr0_0 : Kd.C (Kd.int .u8) w A0_0 l0_0.length l0_0) (hc0_0 : l0_0.length ≤ c0_0) (hr0_1 : Kd.C k79 w A0_1 l0_1.length l0_1) (hc0_1 : l0_1.length ≤ c0_1) (hr3 : Kd.C (Kd.int .u8) w A3 l3.length l3) (hc3 : l3.length ≤ c3) (h : m_WriteRec.f k l0_0 l0_1 a0_2 a0_3 a1 a2 l3 = some (r1, r2, r3, r4)) :
  Calls Try.prog 37 #[.agg #[.slice A0_0 l0_0.length c0_0, .slice A0_1 l0_1.length c0_1, .int .i64 a0_2, .bool a0_3], .int .i64 a1, .int .i64 a2, .slice A3 l3.length c3] w fun e w' => ∃ v0_ v1_ : Value, e = .returned (.agg #[v0_, v1_, .int .i64 r3, .bool r4]) ∧ Kd.R (Kd.int .u8) 5 w' w.heap.size (fun _ => True) v0_ r1 ∧ Kd.S k79 79 w' w.heap.size (fun k_ => some k_ ≠ (v0_ : Value).ownBlock) v1_ r2 ∧ Below w.heap.size w w' := by
 unfold m_WriteRec.f at h
 split at h
 case isFalse => cases h
 next hL =>
 have := impl_WriteRec_any A0_0 c0_0 l0_0 A0_1 c0_1 l0_1 a0_2 a0_3 a1 a2 A3 c3 l3 w hr0_0 hc0_0 hr0_1 hc0_1 hr3 hc3 hL.1 ⟨hL.2.1, fun x hx => by have := List.all_eq_true.1 hL.2.2.1 x hx; simpa using this⟩ hL.2.2.2
 rw [Option.some.inj h] at this
 exact this

/-! ### L_markBytes: a text by hand -/
theorem rd_mid (pre : List Int) (x : Int) (rest : List Int) : rd (pre ++ x :: rest) (pre.length : Int) = x := by unfold rd; rw [Int.toNat_natCast, List.getD_eq_getElem?_getD, List.getElem?_append_right (Nat.le_refl _)]; simp
theorem set_mid {α : Type} (pre : List α) (x y : α) (rest : List α) : (pre ++ x :: rest).set (pre.length : Int).toNat y = (pre ++ [y]) ++ rest := by rw [Int.toNat_natCast, List.set_append_right _ _ (Nat.le_refl _)]; simp
def mkB : Int → List Int → List Int
 | _, [] => []
 | k, _ :: xs => k % 256 :: mkB (k + 1) xs
theorem mkB_len (k : Int) (l : List Int) : (mkB k l).length = l.length := by induction l generalizing k with
 | nil => rfl
 | cons x xs ih => simp [mkB, ih]
theorem markB_loop (rest : List Int) : ∀ (pre : List Int) (k : Int), 0 ≤ k → k + rest.length ≤ 4611686018427387904 → pre.length + rest.length ≤ 4611686018427387904 →
   Ev (fun K => laws_markByteS.l0 K (pre ++ rest) k (pre.length : Int)) (k + rest.length, pre ++ mkB k rest) := by
 induction rest with
 | nil => intro pre k _ _ _; exact Ev.step (fun K => by simp only [laws_markByteS.l0]; rw [if_neg (by simp)]) (by simpa [mkB] using Ev.now _)
 | cons x xs ih =>
   intro pre k h0 h1 h2
   simp only [List.length_cons] at h1 h2
   have ih' := ih (pre ++ [k % 256]) (k + 1) (by omega) (by omega) (by simp; omega)
   rw [show ((pre ++ [k % 256]).length : Int) = wrap64 ((pre.length : Int) + 1) by simp; unfold wrap64; omega] at ih'
   have e : (k + 1 + (xs.length : Int), pre ++ [k % 256] ++ mkB (k + 1) xs) = (k + ((x :: xs).length : Int), pre ++ mkB k (x :: xs)) := by simp [mkB]; omega
   rw [e] at ih'
   exact Ev.step (fun K => by simp only [laws_markByteS.l0]; rw [if_pos (by simp; omega), if_pos (by omega), set_mid, show wrap64 (k + 1) = k + 1 by unfold wrap64; omega]) ih'
theorem markByteS_ev (l : List Int) (k : Int) (h0 : 0 ≤ k) (h1 : k + l.length ≤ 4611686018427387904) : Ev (fun K => laws_markByteS.f K l k) (k + l.length, mkB k l) :=
 markB_loop l [] k h0 h1 (by simp; omega)
theorem heldB_loop (rest : List Int) : ∀ (pre : List Int) (k : Int), 0 ≤ k → k + rest.length ≤ 4611686018427387904 → pre.length + rest.length ≤ 4611686018427387904 →
   Ev (fun K => laws_heldByteS.l0 K (pre ++ mkB k rest) k (pre.length : Int)) (k + rest.length) := by
 induction rest with
 | nil => intro pre k _ _ _; exact Ev.step (fun K => by simp only [laws_heldByteS.l0]; rw [if_neg (by simp [mkB])]) (by simpa using Ev.now _)
 | cons x xs ih =>
   intro pre k h0 h1 h2
   simp only [List.length_cons] at h1 h2
   have ih' := ih (pre ++ [k % 256]) (k + 1) (by omega) (by omega) (by simp; omega)
   rw [show ((pre ++ [k % 256]).length : Int) = wrap64 ((pre.length : Int) + 1) by simp; unfold wrap64; omega, List.append_assoc] at ih'
   have e : (k + 1 + (xs.length : Int)) = k + ((x :: xs).length : Int) := by simp; omega
   rw [e] at ih'
   rw [show mkB k (x :: xs) = k % 256 :: mkB (k + 1) xs from rfl]
   exact Ev.step (fun K => by simp only [laws_heldByteS.l0]; rw [if_pos (by simp [mkB_len]; omega), rd_mid, if_pos rfl, show wrap64 (k + 1) = k + 1 by unfold wrap64; omega]; rfl) ih'
theorem heldByteS_ev (l : List Int) (k : Int) (h0 : 0 ≤ k) (h1 : k + l.length ≤ 4611686018427387904) : Ev (fun K => laws_heldByteS.f K (mkB k l) k) (k + l.length) :=
 heldB_loop l [] k h0 h1 (by simp; omega)

/-! ### laws_markPendS: a text by hand -/
def laws_markPendS.l0 : Nat → List (S79) → Int → Int → Option (Int × List (S79))
 | 0, _, _, _ => none
 | k + 1, x0, x1, x5 => if x5 < (x0.length : Int) then (if 0 ≤ x5 then ((laws_markByteS.f k (rd_T79 x0 x5).f1 (wrap64 (x1 + 1))).bind fun b => laws_markPendS.l0 k (x0.set (x5 : Int).toNat (⟨x1, b.2⟩ : S79)) b.1 (wrap64 (x5 + 1))) else none) else some (x1, x0)
def laws_markPendS.f (k : Nat) (l0 : List (S79)) (a1 : Int) : Option (Int × List (S79)) := laws_markPendS.l0 k l0 a1 0
theorem pend_inner {W : World} {base g n cap : Nat} {ok : Nat → Prop} {xs : List S79} (h : Kd.S k79 79 W base ok (.slice (some ⟨g, 0, none⟩) n cap) xs) (i : Int) (h0 : 0 ≤ i) (h1 : i < xs.length) :
  ∃ (vd : Value) (oki : Nat → Prop), W.cell? ⟨g, i.toNat * 2 + 1, none⟩ = some vd ∧ Kd.R (Kd.int .u8) 5 W base oki vd (rd_T79 xs i).f1 ∧ (∀ k, oki k → ok k ∧ k ≠ g) ∧
   ∀ (W' : World) (l' : List Int) (ok' : Nat → Prop), (∀ k, k < W.heap.size → ¬ (some k = vd.ownBlock) → W'.heap[k]? = W.heap[k]?) → Kd.R (Kd.int .u8) 5 W' base ok' vd l' →
    Kd.S k79 79 W' base ok (.slice (some ⟨g, 0, none⟩) n cap) (xs.set i.toNat ⟨(rd_T79 xs i).f0, l'⟩) := by
 have hn := (Kd.S_reads' h).1
 obtain ⟨oki, c, hcl, hM, hcc, _, hoki, hH⟩ := Kd.S_elem h z79 i h0 (by omega)
 obtain ⟨vd, rfl, gd⟩ := k79_openM hM
 refine ⟨vd, oki, hcc 1 _ rfl, gd, hoki, fun W' l' ok' hk hR => ?_⟩
 have hH' := Kd.H_step hH (w1 := W') (fun k _ hn hlt => hk k hlt (fun he => hn (gd.1 k he.symm)))
 exact Kd.H_back hH' (k79_mkM W' base oki ⟨(rd_T79 xs i).f0, l'⟩ (Kd.R_reok rfl hR (fun k hk => gd.1 k hk))) (fun _ hk => hk)
theorem rdset {xs : List S79} {i : Int} {x : S79} (h0 : 0 ≤ i) (h1 : i < xs.length) : rd_T79 (xs.set i.toNat x) i = x := by
 unfold rd_T79
 rw [List.getD_eq_getElem?_getD, List.getElem?_set_self (by omega)]
 rfl
set_option maxHeartbeats 8000000 in
set_option maxRecDepth 100000 in
theorem laws_markPendS.calls (k : Nat) (P0_ : Nat → Prop) (u9000_ : Value) (l0 : List (S79)) (a1 : Int) (r1 : Int) (r2 : List (S79)) (w0 w : World) (hB : Below w0.heap.size w0 w) (ho0 : Kd.S k79 79 w w0.heap.size P0_ u9000_ l0) (h : laws_markPendS.f k l0 a1 = some (r1, r2)) :
  Calls Try.prog 73 #[u9000_, .int .i64 a1] w fun e w' => e = .returned (.int .i64 r1) ∧ Kd.S k79 79 w' w0.heap.size (fun k_ => (P0_ k_ ∨ w.heap.size ≤ k_)) u9000_ r2 ∧ Below w0.heap.size w0 w' ∧ Kept w w' (fun k_ => P0_ k_) := by
 have HO0 := Aside0.mk (show Kd.S k79 79 w w0.heap.size (fun k_ => (P0_ k_ ∨ w.heap.size ≤ k_)) u9000_ l0 from Kd.S_mono ho0 (fun k_ hk => (.inl hk)))
 have HK := Aside0.mk (Kept.refl w (fun k_ => P0_ k_))
 have HW0 := Aside0.mk hB.size
 have HB := Aside0.mk hB
 clear hB
 have H : (laws_markPendS.l0 k l0 a1 0) = some (r1, r2) := h
 clear h
 have H' := Aside0.mk H
 clear H
 go_enter Try.func73, Try.ntmps73
 go_wp2
 go_loopg [1, 5] k (fun kq v1 v5 w' => ∃ (x0_1 : List (S79)) (x1_1 : Int) (x5_1 : Int), v1 = .int .i64 x1_1 ∧ v5 = .int .i64 x5_1 ∧ Aside0 (laws_markPendS.l0 kq x0_1 x1_1 x5_1 = some (r1, r2)) ∧ Aside0 (kq ≤ k) ∧ Aside0 (Kd.S k79 79 w' w0.heap.size (fun k_ => (P0_ k_ ∨ w.heap.size ≤ k_)) u9000_ x0_1) ∧ Aside0 (Kept w w' (fun k_ => P0_ k_)) ∧ Aside0 (Below w0.heap.size w0 w'))
 case atStart => exact ⟨(l0), (a1), (0), (by first | rfl | (simp; done) | (simp [*]; done)), (by first | rfl | (simp; done) | (simp [*]; done)), H', ⟨Nat.le_refl _⟩, ⟨by (with_reducible repeat (first | apply Kd.S_alloc | apply Kd.S_drewN | apply Kd.S_drew)); exact HO0.out⟩, ⟨by repeat (first | (with_reducible first | exact HK.out | apply Kept.alloc | apply Kept.drewN | apply Kept.drew) | exact HK.out)⟩, ⟨by repeat (first | (with_reducible first | exact HB.out | apply below_alloc | apply pw_below_drewN | apply below_drew1) | exact HB.out)⟩⟩
 case round =>
  clear H'
  try clear p2
  obtain ⟨x0_1, x1_1, x5_1, rfl, rfl, HA, HK1, HO_0, HK, HB⟩ := hrel
  cases gk with
  | zero => exact absurd HA.out (by simp [laws_markPendS.l0])
  | succ k1 =>
    have H := HA.out
    clear HA
    simp only [laws_markPendS.l0] at H
    by_cases c3 : x5_1 < (x0_1.length : Int)
    ·rw [if_pos c3] at H
     have c3b0 : decide (x5_1 < (x0_1.length : Int)) = true := decide_eq_true c3
     clear c3
     by_cases c4 : 0 ≤ x5_1
     ·rw [if_pos c4] at H
      have c4b0 : decide (0 ≤ x5_1) = true := decide_eq_true c4
      clear c4
      replace H := Option.bind_eq_some_iff.mp H
      obtain ⟨⟨b1, b2⟩, HM0, H⟩ := H
      replace H : laws_markPendS.l0 k1 (x0_1.set (x5_1 : Int).toNat (⟨x1_1, b2⟩ : S79)) b1 (wrap64 (x5_1 + 1)) = some (r1, r2) := H
      have HM := Aside0.mk HM0
      clear HM0
      obtain ⟨y128, hy128⟩ : ∃ y_ : List (S79), y_ = (x0_1.set (x5_1 : Int).toNat (⟨x1_1, (rd_T79 x0_1 x5_1).f1⟩ : S79)) := ⟨_, rfl⟩
      have Ny128 := Aside0.mk hy128
      clear hy128
      have H' := Aside0.mk H
      clear H
      obtain ⟨Ao6, co6, eo6⟩ := Kd.S_slice HO_0.out
      subst eo6
      have p5 : 0 ≤ (x5_1 : Int) := of_decide_eq_true (by first | (with_reducible assumption) | assumption)
      have q5 : (x5_1 : Int) < ((x0_1.length : Int) : Int) := of_decide_eq_true (by first | (with_reducible assumption) | assumption)
      obtain ⟨go5, co5, eo5, gb5, gl5, cl5, HG5⟩ := Kd.S_form HO_0.out (by omega)
      (first | cases eo5 | (injection eo5 with ea_ en_ ec_; (first | subst ea_ | (injection ea_ with ea_; subst ea_)); subst ec_; clear en_))
      have GB5 := Aside0.mk gb5
      have GG5 := Aside0.mk HG5
      clear gb5 gl5 HG5
      have HMgo5 := Aside0.mk (show (P0_ go5 ∨ w.heap.size ≤ go5) from ((Kd.S_R HO_0.out).1 _ rfl))
      obtain ⟨_, ce5, hcl5, hM5, hcc5, hfr5, _, _⟩ := Kd.S_elem HO_0.out z79 (x5_1 : Int) p5 q5
      obtain ⟨ve5_1, rfl, ge5_1⟩ := k79_openM hM5
      have hx5_0 : wr.cell? ⟨go5, (x5_1 : Int).toNat * 2, none⟩ = some (.int .i64 ((rd_T79 x0_1 x5_1).f0)) := hcc5 0 _ rfl
      have hx5_1 : wr.cell? ⟨go5, (x5_1 : Int).toNat * 2 + 1, none⟩ = some (ve5_1) := hcc5 1 _ rfl
      have hf5_0 : wr.frozen? ⟨go5, (x5_1 : Int).toNat * 2, none⟩ = false := hfr5 0
      have hf5_1 : wr.frozen? ⟨go5, (x5_1 : Int).toNat * 2 + 1, none⟩ = false := hfr5 1
      clear hcl5 hcc5 hfr5 hM5
      replace p5 := eq_true p5
      replace q5 := eq_true q5
      have HX7 := Aside0.mk (show Kd.S k79 79 wr w0.heap.size (fun k_ => ((fun k_ => (P0_ k_ ∨ w.heap.size ≤ k_))) k_ ∧ ¬ ((fun _ => False)) k_) (.slice (some ⟨go5, 0, none⟩) x0_1.length co6) x0_1 from (by (with_reducible repeat (first | apply Kd.S_alloc | apply Kd.S_drewN | apply Kd.S_drew)); exact Kd.S_mono HO_0.out (fun k_ hk => ⟨hk, fun e_ => e_⟩)))
      obtain ⟨oki7, ce7, hcl7, hM7, hcc7, hfr7, hoki7, hH7⟩ := Kd.S_elem HX7.out z79 (x5_1 : Int) (of_decide_eq_true (by first | (with_reducible assumption) | assumption)) (by have h_ : (x5_1 : Int) < ((x0_1.length : Int) : Int) := of_decide_eq_true (by first | (with_reducible assumption) | assumption); first | exact h_ | (have e_ := (Kd.S_reads' HO_0.out).1; omega) | simpa using h_)
      obtain ⟨ve7_1, rfl, ge7_1⟩ := k79_openM hM7
      have HP7 := Kd.S_seg hH7 (of_decide_eq_true (by first | (with_reducible assumption) | assumption)) (by have h_ : (x5_1 : Int) < ((x0_1.length : Int) : Int) := of_decide_eq_true (by first | (with_reducible assumption) | assumption); first | exact h_ | (have e_ := (Kd.S_reads' HO_0.out).1; omega) | simpa using h_) (seg := [.int .i64 x1_1]) (j := 0) (show 1 ≤ 2 from by decide) (x' := (⟨x1_1, (rd_T79 x0_1 x5_1).f1⟩ : S79)) (k79_mkM _ _ _ (⟨x1_1, (rd_T79 x0_1 x5_1).f1⟩ : S79) (Kd.R_mono ge7_1 (fun _ h_ => Or.inl h_))) (fun _ hk => hk) (fun k_ hk_ => hk_.elim)
      have hx7_0 := hcc7 0 _ rfl
      (try simp only [show (k79).sz = 2 from rfl, Nat.mul_one, Nat.add_zero] at hx7_0)
      have hf7_0 := hfr7 0
      (try simp only [show (k79).sz = 2 from rfl, Nat.mul_one, Nat.add_zero] at hf7_0)
      clear hcl7 hcc7 hfr7 hM7 hoki7 hH7
      go_wp2_with (first | ((with_reducible refine gate_store (t := 2) (p := 16) rfl ?_); refine store_event (t := 2) (p := 16) (v := ?vo_w8) (w1 := (wr.setCell ⟨go5, (x5_1 : Int).toNat * 2, none⟩ (.int .i64 x1_1))) ?hg ?ho ?hn ?hr ?_; (case ho => rfl); (case hg => rfl); (case hn => rfl); (case hr => first | (go_simp; done) | (go_simp; rfl)); intro w8 hw; have hg : wr.grownBy w8 (some go5) := (by rw [hw]; exact HP7.2); have hp_ : Kd.S k79 79 w8 w0.heap.size (fun k_ => (P0_ k_ ∨ w.heap.size ≤ k_)) (.slice (some ⟨go5, 0, none⟩) x0_1.length co6) y128 := (by rw [hw, Ny128.out]; exact HP7.1); clear HP7; have n0_ := Aside0.mk (hp_); have n1_ := Aside0.mk ((by rw [hw]; exact below_set (HB.out) GB5.out : Below w0.heap.size w0 w8)); have n2_ := Aside0.mk (Kept.of_grown (S := (fun k_ => P0_ k_)) hg (by repeat (first | (with_reducible first | exact HK.out | apply Kept.alloc | apply Kept.drewN | apply Kept.drew) | exact HK.out)) (fun k_ e_ => ((Kd.S_R HO_0.out).1 k_ e_))); clear HO_0; clear HB; clear HK; have HO_0 := n0_; have HB := n1_; have HK := n2_; clear n0_ n1_ n2_; clear hg hw hp_; (have ex0 := Aside0.mk (show rd_T79 y128 x5_1 = ⟨x1_1, (rd_T79 x0_1 x5_1).f1⟩ from by rw [Ny128.out]; exact rdset (of_decide_eq_true c4b0) (of_decide_eq_true c3b0))); (have hl_ : x0_1.length = y128.length := by rw [Ny128.out, List.length_set]); (obtain ⟨vd, oki, hx8, gd, hoki, hback⟩ := pend_inner HO_0.out x5_1 (of_decide_eq_true c4b0) (by have := of_decide_eq_true c3b0; omega)); clear hl_))
      rw [ex0.out] at gd
      refine (laws_markByteS.calls k1 (fun k_ => some k_ = vd.ownBlock) vd _ _ b1 b2 w0 w8 HB.out (Kd.R_tight rfl gd) HM.out).mono ?_
      rintro e w9 ⟨rfl, hR, hB9, hK9⟩
      have n0_ := Aside0.mk hB9
      have n1_ := Aside0.mk (show Kept w w9 (fun k_ => P0_ k_) from ⟨Nat.le_trans HK.out.1 hK9.1, fun j hj hn => (hK9.2 j (Nat.lt_of_lt_of_le hj HK.out.1) (fun he => ((hoki j (gd.1 j he.symm)).1).elim hn (fun h2 => absurd h2 (Nat.not_le.2 hj)))).trans (HK.out.2 j hj hn)⟩)
      have hS := hback w9 b2 _ (fun k hlt hn => hK9.2 k hlt hn) hR
      rw [ex0.out, Ny128.out, List.set_set] at hS
      have n2_ := Aside0.mk hS
      clear hR hB9 hK9 hS hback hoki gd ex0 HO_0 HB HK
      have HB := n0_
      have HK := n1_
      have HO_0 := n2_
      clear n0_ n1_ n2_ HX7 Ny128
      go_wp2
      go_roundg k1
      case measure => have := HK1.out; omega
      case rel => exact ⟨_, _, _, rfl, rfl, H', ⟨by have := HK1.out; omega⟩, HO_0, HK, HB⟩
     ·rw [if_neg c4] at H
      exact absurd H (by simp)
    ·rw [if_neg c3] at H
     have c3b0 : decide (x5_1 < (x0_1.length : Int)) = false := decide_eq_false c3
     clear c3
     simp only [Option.some.injEq, Prod.mk.injEq] at H
     obtain ⟨rfl, rfl⟩ := H
     obtain ⟨Ao9, co9, eo9⟩ := Kd.S_slice HO_0.out
     subst eo9
     go_wp2
     go_ret
     exact ⟨by first | rfl | (simp [errW_none, errW_some] <;> rfl) | (simp [*, errW_none, errW_some] <;> rfl), by (with_reducible repeat (first | apply Kd.S_alloc | apply Kd.S_drewN | apply Kd.S_drew)); exact HO_0.out, by repeat (first | (with_reducible first | exact HB.out | apply below_alloc | apply pw_below_drewN | apply below_drew1) | exact HB.out), by repeat (first | (with_reducible first | exact HK.out | apply Kept.alloc | apply Kept.drewN | apply Kept.drew) | exact HK.out)⟩

/-! ### L_markDisk: a text by hand -/
def mkP : Int → List S79 → Int × List S79
 | k, [] => (k, [])
 | k, x :: xs => ((mkP (k + 1 + x.f1.length) xs).1, ⟨k, mkB (k + 1) x.f1⟩ :: (mkP (k + 1 + x.f1.length) xs).2)
theorem mkP_bd (l : List S79) (hl : ∀ x ∈ l, x.f1.length ≤ 1048576) : ∀ k : Int, k ≤ (mkP k l).1 ∧ (mkP k l).1 ≤ k + 1048577 * l.length := by
 induction l with
 | nil => intro k; simp [mkP]
 | cons x xs ih =>
   intro k
   have h := ih (fun y hy => hl y (List.mem_cons_of_mem _ hy)) (k + 1 + x.f1.length)
   have hx := hl x List.mem_cons_self
   simp only [mkP, List.length_cons]
   omega
theorem mkP_len (k : Int) (l : List S79) : (mkP k l).2.length = l.length := by induction l generalizing k with
 | nil => rfl
 | cons x xs ih => simp [mkP, ih]
theorem rd_midP (pre : List S79) (x : S79) (rest : List S79) : rd_T79 (pre ++ x :: rest) (pre.length : Int) = x := by unfold rd_T79; rw [Int.toNat_natCast, List.getD_eq_getElem?_getD, List.getElem?_append_right (Nat.le_refl _)]; simp
theorem markP_loop (rest : List S79) (hl : ∀ x ∈ rest, x.f1.length ≤ 1048576) : ∀ (pre : List S79) (k : Int), 0 ≤ k → k + 1048577 * rest.length ≤ 4611686018427387904 → pre.length + rest.length ≤ 4611686018427387904 →
   Ev (fun K => laws_markPendS.l0 K (pre ++ rest) k (pre.length : Int)) ((mkP k rest).1, pre ++ (mkP k rest).2) := by
 induction rest with
 | nil => intro pre k _ _ _; exact Ev.step (fun K => by simp only [laws_markPendS.l0]; rw [if_neg (by simp)]) (by simpa [mkP] using Ev.now _)
 | cons x xs ih =>
   intro pre k h0 h1 h2
   have hx := hl x List.mem_cons_self
   simp only [List.length_cons] at h1 h2
   have ih' := ih (fun y hy => hl y (List.mem_cons_of_mem _ hy)) (pre ++ [⟨k, mkB (k + 1) x.f1⟩]) (k + 1 + x.f1.length) (by omega) (by omega) (by simp; omega)
   rw [show ((pre ++ [(⟨k, mkB (k + 1) x.f1⟩ : S79)]).length : Int) = wrap64 ((pre.length : Int) + 1) by simp; unfold wrap64; omega] at ih'
   have e : ((mkP (k + 1 + x.f1.length) xs).1, pre ++ [(⟨k, mkB (k + 1) x.f1⟩ : S79)] ++ (mkP (k + 1 + x.f1.length) xs).2) = ((mkP k (x :: xs)).1, pre ++ (mkP k (x :: xs)).2) := by simp [mkP]
   rw [e] at ih'
   refine Ev.step (fun K => by simp only [laws_markPendS.l0]; rw [if_pos (by simp; omega), if_pos (by omega), rd_midP, show wrap64 (k + 1) = k + 1 by unfold wrap64; omega]) (Ev.bind (markByteS_ev x.f1 (k + 1) (by omega) (by omega)) ?_)
   exact Ev.congr (fun K => by rw [set_mid]) ih'
theorem markPendS_ev (l : List S79) (hl : ∀ x ∈ l, x.f1.length ≤ 1048576) (k : Int) (h0 : 0 ≤ k) (h1 : k + 1048577 * l.length ≤ 4611686018427387904) : Ev (fun K => laws_markPendS.f K l k) (mkP k l) :=
 markP_loop l hl [] k h0 h1 (by simp; omega)
theorem heldP_loop (rest : List S79) (hl : ∀ x ∈ rest, x.f1.length ≤ 1048576) : ∀ (pre : List S79) (k : Int), 0 ≤ k → k + 1048577 * rest.length ≤ 4611686018427387904 → pre.length + rest.length ≤ 4611686018427387904 →
   Ev (fun K => laws_heldPendS.l0 K (pre ++ (mkP k rest).2) k (pre.length : Int)) (mkP k rest).1 := by
 induction rest with
 | nil => intro pre k _ _ _; exact Ev.step (fun K => by simp only [laws_heldPendS.l0]; rw [if_neg (by simp [mkP])]) (by simpa [mkP] using Ev.now _)
 | cons x xs ih =>
   intro pre k h0 h1 h2
   have hx := hl x List.mem_cons_self
   simp only [List.length_cons] at h1 h2
   have ih' := ih (fun y hy => hl y (List.mem_cons_of_mem _ hy)) (pre ++ [⟨k, mkB (k + 1) x.f1⟩]) (k + 1 + x.f1.length) (by omega) (by omega) (by simp; omega)
   rw [show ((pre ++ [(⟨k, mkB (k + 1) x.f1⟩ : S79)]).length : Int) = wrap64 ((pre.length : Int) + 1) by simp; unfold wrap64; omega, List.append_assoc] at ih'
   have hb := heldByteS_ev x.f1 (k + 1) (by omega) (by omega)
   rw [show (mkP k (x :: xs)).2 = ⟨k, mkB (k + 1) x.f1⟩ :: (mkP (k + 1 + x.f1.length) xs).2 from rfl, show (mkP k (x :: xs)).1 = (mkP (k + 1 + x.f1.length) xs).1 from rfl]
   refine Ev.step (fun K => by simp only [laws_heldPendS.l0]; rw [if_pos (by simp [mkP_len]; omega), rd_midP, if_pos rfl, show wrap64 (k + 1) = k + 1 by unfold wrap64; omega, if_pos (by omega)]) (Ev.bind hb ?_)
   exact Ev.congr (fun K => by rw [if_neg (by omega)]; rfl) ih'
theorem heldPendS_ev (l : List S79) (hl : ∀ x ∈ l, x.f1.length ≤ 1048576) (k : Int) (h0 : 0 ≤ k) (h1 : k + 1048577 * l.length ≤ 4611686018427387904) : Ev (fun K => laws_heldPendS.f K (mkP k l).2 k) (mkP k l).1 :=
 heldP_loop l hl [] k h0 h1 (by simp; omega)
theorem heldDisk_ev (l0 : List Int) (l1 : List S79) (a2 : Int) (a3 : Bool) (h0 : l0.length ≤ 1048576) (hl : okPendS l1) : Ev (fun K => laws_heldDisk.f K (mkB 1 l0) (mkP (1 + l0.length) l1).2 a2 a3 1) (mkP (1 + l0.length) l1).1 := by
 have h1 := hl.1
 have hb := mkP_bd l1 hl.2 (1 + l0.length)
 unfold laws_heldDisk.f
 refine Ev.bind (heldByteS_ev l0 1 (by omega) (by omega)) ?_
 refine Ev.congr (fun K => by rw [if_neg (by omega)]) (Ev.bind (heldPendS_ev l1 hl.2 _ (by omega) (by omega)) ?_)
 exact Ev.congr (fun K => by rw [if_neg (by omega)]) (Ev.now _)

/-! ### laws_markDisk: a text by hand -/
set_option maxHeartbeats 1000000 in
set_option maxRecDepth 100000 in
theorem laws_markDisk.calls (k1 k2 : Nat) (P0 P1 : Nat → Prop) (v0 v1 : Value) (l0 : List Int) (l1 : List S79) (a2 : Int) (a3 : Bool) (a1 b1 : Int) (b2 : List Int) (r1 : Int) (r2 : List S79) (w0 w : World)
  (hB : Below w0.heap.size w0 w) (ho0 : Kd.R (Kd.int .u8) 5 w w0.heap.size P0 v0 l0) (ho1 : Kd.S k79 79 w w0.heap.size P1 v1 l1) (hp : ∀ k, P0 k → ¬ P1 k)
  (h1 : laws_markByteS.f k1 l0 a1 = some (b1, b2)) (h2 : laws_markPendS.f k2 l1 b1 = some (r1, r2)) :
  Calls Try.prog 28 #[.agg #[v0, v1, .int .i64 a2, .bool a3], .int .i64 a1] w fun e w' => e = .returned (.int .i64 r1) ∧ Kd.R (Kd.int .u8) 5 w' w0.heap.size P0 v0 b2 ∧
    Kd.S k79 79 w' w0.heap.size (fun k => P1 k ∨ w.heap.size ≤ k) v1 r2 ∧ Below w0.heap.size w0 w' ∧ Kept w w' (fun k => P0 k ∨ P1 k) := by
 have H1 := Aside0.mk h1
 have H2 := Aside0.mk h2
 have HB := Aside0.mk hB
 have HO0 := Aside0.mk ho0
 have HO1 := Aside0.mk ho1
 have HP := Aside0.mk hp
 clear h1 h2 hB ho0 ho1 hp
 have hu := Try.underlying25
 obtain ⟨A0, c0, rfl⟩ := Kd.R_slice HO0.out
 obtain ⟨A1, c1, rfl⟩ := Kd.S_slice HO1.out
 go_enter Try.func28, Try.ntmps28
 go_wp2_with fail
 have hlt0 := Kd.R_lt HO0.out
 have hS1 := Kd.S_mono (ok' := fun k => P1 k ∧ k < w.heap.size) (Kd.S_bound HO1.out) (fun k hk => ⟨hk.1, hk.2.2.1⟩)
 refine (laws_markByteS.calls k1 (fun k => some k = (Value.slice A0 l0.length c0).ownBlock) _ _ _ b1 b2 w0 _ (below_allocB HB.out HB.out.size _) (Kd.R_alloc (Kd.R_tight rfl HO0.out) _) H1.out).mono ?_
 rintro e w1 ⟨rfl, hR, hB1, hK1⟩
 have G0 := blk_kept (blk_new w _) hK1 (fun he => absurd (hlt0 _ he.symm) (Nat.lt_irrefl _))
 have hx := blk_cell G0 1
 have hx1 : w1.cell? ⟨w.heap.size, 1, none⟩ = some (.slice A1 l1.length c1) := hx.trans rfl
 clear hx
 have hR' := Aside0.mk (Kd.R_reok rfl hR (fun k hk => HO0.out.1 k hk))
 have hS' := Aside0.mk (Kd.S_kept (Kd.S_alloc hS1 _) hK1 (fun k hk he => HP.out k (HO0.out.1 k he.symm) hk.1))
 have hz1 := Aside0.mk hK1.1
 have HK1 := Aside0.mk (show Kept w w1 (fun k => P0 k ∨ P1 k) from (Kept.alloc (Kept.refl w _) _).then_ hK1 (fun k hk => .inl (.inl (HO0.out.1 k hk.symm))))
 have HB1 := Aside0.mk hB1
 clear hR hB1 hK1 G0 hlt0 hS1
 go_wp2_with fail
 refine (laws_markPendS.calls k2 (fun k => P1 k ∧ k < w.heap.size) _ _ _ r1 r2 w0 _ HB1.out hS'.out H2.out).mono ?_
 rintro e w2 ⟨rfl, hS, hB2, hK2⟩
 have n0 := Aside0.mk (Kd.R_kept hR'.out hK2 (fun k hk he => HP.out k hk he.1))
 have n1 := Aside0.mk (Kd.S_mono (ok' := fun k => P1 k ∨ w.heap.size ≤ k) hS (fun k hk => hk.imp (fun h => h.1) (fun h => by have := HK1.out.1; omega)))
 have n2 := Aside0.mk hB2
 have n3 := Aside0.mk (HK1.out.then_ hK2 (fun k hk => .inl (.inr hk.1)))
 clear hS hB2 hK2
 go_wp2
 go_ret
 exact ⟨rfl, n0.out, n1.out, n2.out, n3.out⟩

/-! ### laws_markDisk2: a text by hand -/
theorem laws_markByteS.own (k lo hi : Nat) (v : Value) (l : List Int) (m0 m1 : Int) (l' : List Int) (w0 w : World) {ok : Nat → Prop} (hle : w0.heap.size ≤ lo) (hB : Below w0.heap.size w0 w)
   (ho : Kd.R (Kd.int .u8) 5 w w0.heap.size (fun k => (lo ≤ k ∧ k < hi) ∧ ok k) v l) (h : laws_markByteS.f k l m0 = some (m1, l')) :
   Calls Try.prog 39 #[v, .int .i64 m0] w fun e w' => e = .returned (.int .i64 m1) ∧ Kd.R (Kd.int .u8) 5 w' w0.heap.size (fun k => (lo ≤ k ∧ k < hi) ∧ ok k) v l' ∧ Below w0.heap.size w0 w' ∧ Kept w w' (fun k => lo ≤ k ∧ k < hi) :=
 (laws_markByteS.calls k (fun k => (lo ≤ k ∧ k < hi) ∧ ok k) v l m0 m1 l' w0 w hB ho h).mono fun e w' hh => ⟨hh.1, Kd.R_reok rfl hh.2.1 (fun k hk => ho.1 k hk), hh.2.2.1, hh.2.2.2.mono (fun k hk => hk.1)⟩
theorem laws_markDisk.own (k1 k2 lo hi : Nat) (v0 v1 : Value) (a2 : Int) (a3 : Bool) (l0 : List Int) (l1 : List S79) (m0 m1 m2 : Int) (l0' : List Int) (l1' : List S79) (w0 w : World) {ok0 : Nat → Prop} (hle : w0.heap.size ≤ lo) (hB : Below w0.heap.size w0 w)
   (ho0 : Kd.R (Kd.int .u8) 5 w w0.heap.size (fun k => (lo ≤ k ∧ k < hi) ∧ ok0 k) v0 l0) (ho1 : Kd.S k79 79 w w0.heap.size (fun k => (lo ≤ k ∧ k < hi) ∧ some k ≠ v0.ownBlock) v1 l1)
   (h1 : laws_markByteS.f k1 l0 m0 = some (m1, l0')) (h2 : laws_markPendS.f k2 l1 m1 = some (m2, l1')) :
   Calls Try.prog 28 #[.agg #[v0, v1, .int .i64 a2, .bool a3], .int .i64 m0] w fun e w' => e = .returned (.int .i64 m2) ∧ Kd.R (Kd.int .u8) 5 w' w0.heap.size (fun k => (lo ≤ k ∧ k < hi) ∧ some k = v0.ownBlock) v0 l0' ∧
     Kd.S k79 79 w' w0.heap.size (fun k => ((lo ≤ k ∧ k < hi) ∧ some k ≠ v0.ownBlock) ∨ w.heap.size ≤ k) v1 l1' ∧ Below w0.heap.size w0 w' ∧ Kept w w' (fun k => lo ≤ k ∧ k < hi) :=
 (laws_markDisk.calls k1 k2 (fun k => (lo ≤ k ∧ k < hi) ∧ some k = v0.ownBlock) (fun k => (lo ≤ k ∧ k < hi) ∧ some k ≠ v0.ownBlock) v0 v1 l0 l1 a2 a3 m0 m1 l0' m2 l1' w0 w hB (Kd.R_reok rfl ho0 (fun k hk => ⟨(ho0.1 k hk).1, hk.symm⟩)) ho1 (fun k a b => b.2 a.2) h1 h2).mono
   fun e w' hh => ⟨hh.1, hh.2.1, hh.2.2.1, hh.2.2.2.1, hh.2.2.2.2.mono (fun k hk => hk.elim (fun h => h.1) (fun h => h.1))⟩

/-! ### zguard1_WriteRec: a text by hand -/
set_option maxHeartbeats 4000000 in
set_option maxRecDepth 100000 in
theorem guard1_FnExactWriteRec (A0_0 : Option Addr) (c0_0 : Nat) (l0_0 : List Int) (A0_1 : Option Addr) (c0_1 : Nat) (l0_1 : List S127) (a0_2 : Int) (a0_3 : Bool) (a1 : Int) (a2 : Int) (A3 : Option Addr) (c3 : Nat) (l3 : List Int) (r1 : Int) (w : World)
  (hr0_0 : Kd.C (Kd.int .u8) w A0_0 l0_0.length l0_0) (hc0_0 : l0_0.length ≤ c0_0) (hr0_1 : Kd.C k127 w A0_1 l0_1.length l0_1) (hc0_1 : l0_1.length ≤ c0_1) (hr3 : Kd.C (Kd.int .u8) w A3 l3.length l3) (hc3 : l3.length ≤ c3)
  (E2 : Ev (fun k => laws_szDisk.f k l0_0 l0_1 a0_2 a0_3 1048576) r1) (E2p : r1 < 0) (G3 : l3.length ≤ 1048576) :
  Calls Try.prog 7 #[.agg #[.slice A0_0 l0_0.length c0_0, .slice A0_1 l0_1.length c0_1, .int .i64 a0_2, .bool a0_3], .int .i64 a1, .int .i64 a2, .slice A3 l3.length c3] w fun e w' => e = .returned (.bool true) ∧ Below w.heap.size w w' := by
 obtain ⟨k_E2, h_E2⟩ := E2.rounds
 have H_E2 := Aside0.mk h_E2
 clear E2 h_E2
 have E2pb : decide (r1 < 0) = true := decide_eq_true (by omega)
 have HR0_0 := Aside0.mk hr0_0
 have HC0_0 := Aside0.mk hc0_0
 clear hr0_0 hc0_0
 have HR0_1 := Aside0.mk hr0_1
 have HC0_1 := Aside0.mk hc0_1
 clear hr0_1 hc0_1
 have HR3 := Aside0.mk hr3
 have HC3 := Aside0.mk hc3
 clear hr3 hc3
 have hu37 := Try.underlying37
 have HB := Aside0.mk (Below.refl w.heap.size w)
 go_enter Try.func7, Try.ntmps7
 go_wp2_with fail
 refine (laws_szDisk.calls k_E2 _ _ l0_0 _ _ l0_1 a0_2 a0_3 1048576 r1 _ (Kd.C_below HR0_0.out (below_alloc HB.out _)) HC0_0.out (Kd.C_below HR0_1.out (below_alloc HB.out _)) HC0_1.out H_E2.out).mono ?_
 rintro e w1 ⟨rfl, gb⟩
 have hz1 : w.heap.size + 1 ≤ w1.heap.size := by have := gb.size; first | omega | (simp at this; omega)
 have N_HB := Aside0.mk (below_step (below_alloc HB.out _) gb)
 have K4 := Aside0.mk (show w1.heap[w.heap.size]? = some (.cells #[.slice A0_0 l0_0.length c0_0, .slice A0_1 l0_1.length c0_1, .int .i64 a0_2, .bool a0_3] 37 (0, 0)) from by have := blk_below (blk_new _ _) gb; simpa using this)
 clear HB
 have HB := N_HB
 clear N_HB
 clear gb
 go_wp2
 go_ret
 exact ⟨rfl, by first | exact HB.out | exact below_alloc HB.out _ | exact below_alloc (below_alloc HB.out _) _ | exact below_alloc (below_alloc (below_alloc HB.out _) _) _⟩

/-! ### zguardL3_WriteRec: a text by hand -/
set_option maxHeartbeats 4000000 in
set_option maxRecDepth 100000 in
theorem guardL3_FnExactWriteRec (A0_0 : Option Addr) (c0_0 : Nat) (l0_0 : List Int) (A0_1 : Option Addr) (c0_1 : Nat) (l0_1 : List S127) (a0_2 : Int) (a0_3 : Bool) (a1 : Int) (a2 : Int) (A3 : Option Addr) (c3 : Nat) (l3 : List Int)  (w : World)
  (hr0_0 : Kd.C (Kd.int .u8) w A0_0 l0_0.length l0_0) (hc0_0 : l0_0.length ≤ c0_0) (hr0_1 : Kd.C k127 w A0_1 l0_1.length l0_1) (hc0_1 : l0_1.length ≤ c0_1) (hr3 : Kd.C (Kd.int .u8) w A3 l3.length l3) (hc3 : l3.length ≤ c3)
   (G3 : 1048576 < l3.length) :
  Calls Try.prog 7 #[.agg #[.slice A0_0 l0_0.length c0_0, .slice A0_1 l0_1.length c0_1, .int .i64 a0_2, .bool a0_3], .int .i64 a1, .int .i64 a2, .slice A3 l3.length c3] w fun e w' => e = .returned (.bool true) ∧ Below w.heap.size w w' := by
 have HR0_0 := Aside0.mk hr0_0
 have HC0_0 := Aside0.mk hc0_0
 clear hr0_0 hc0_0
 have HR0_1 := Aside0.mk hr0_1
 have HC0_1 := Aside0.mk hc0_1
 clear hr0_1 hc0_1
 have HR3 := Aside0.mk hr3
 have HC3 := Aside0.mk hc3
 clear hr3 hc3
 have HB := Aside0.mk (Below.refl w.heap.size w)
 go_enter Try.func7, Try.ntmps7
 go_wp2
 go_ret
 exact ⟨rfl, by first | exact HB.out | exact below_alloc HB.out _ | exact below_alloc (below_alloc HB.out _) _ | exact below_alloc (below_alloc (below_alloc HB.out _) _) _⟩
end Go.Proofs.Yteddpdonmhiplaa.PR
