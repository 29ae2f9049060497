-- Made by this session's programs out of the translation and of its own texts.
import Derived.Test.YtfjcfklgnlmjjaaMFnExactTreeInserte
namespace Go.Proofs.Ytfjcfklgnlmjjaa.PB
open Go.RowKit Go.Proofs.YtfjcfklgnlmjjaaW.PrintWords Go.Proofs.YtfjcfklgnlmjjaaW.PrintLast Go.Proofs.YtfjcfklgnlmjjaaW.PrintMore
attribute [local go_sem] max2_int min2_int max_two min_two max_three min_three max_four min_four   -- for this text's walks alone
set_option linter.unusedVariables false
set_option linter.unusedSimpArgs false

/-! ### zt_l3flat: a text by hand -/
-- uses results_three blk_cells3
-- import Derived.Laws.ResultCell
-- import Derived.StillTailTactics
def flat.gT1 : Bool × List (List Nat × List Nat) := (true, [([], []), ([0], [0]), ([], []), ([2], [2]), ([3], [3]), ([1, 4], [1, 4]), ([], []), ([6, 5, 3, 0, 1, 2, 3, 4, 5, 6], [5, 6])])
def flat.gB1 : List Nat := [0, 1, 0, 4, 12, 31, 0, 127]
theorem flat.gtab1 : rtab .any (opsOf Try.f37 1) = flat.gT1 := by kernel_rfl
theorem flat.gbits1 : waitsOk flat.gT1.2 flat.gB1 = true := by kernel_rfl
def flat.gT11 : Bool × List (List Nat × List Nat) := (true, [([], []), ([0], [0]), ([], []), ([2], [2]), ([], []), ([3, 4], [3, 4]), ([5], [5]), ([6], [6]), ([7], [7]), ([8], [8]), ([9], [9]), ([1, 10, 7], [1, 10]), ([0, 1, 2, 3, 4, 5, 6, 7, 8, 9, 10, 11], []), ([12, 11, 11, 0, 1, 2, 3, 4, 5, 6, 7, 8, 9, 10, 11], [11, 12])])
def flat.gB11 : List Nat := [0, 1, 0, 4, 0, 28, 60, 124, 252, 508, 1020, 2047, 4095, 8191]
theorem flat.gtab11 : rtab .any (opsOf Try.f37 11) = flat.gT11 := by kernel_rfl
theorem flat.gbits11 : waitsOk flat.gT11.2 flat.gB11 = true := by kernel_rfl
set_option maxHeartbeats 16000000 in
set_option maxRecDepth 100000 in
theorem l3Flat_any (n0 : Nat) : ∀ (d : Nat) (r : Bool) (t : S56) (a : Int) (A1 : Option Addr) (c1 : Nat) (A2 : Option Addr) (c2 : Nat) (W : World) (_ : goodD d r t) (_ : d ≤ 13) (B : Nat) (_ : B = 4 ^ (d + 2)) (_ : 0 ≤ a) (_ : a + (B : Int) ≤ 1125899906842624) (_ : Kd.FK k56 W (fun k => k < n0) t [.bool t.f0, .slice A1 t.f1.length c1, .slice A2 t.f2.length c2]) (_ : n0 ≤ W.heap.size),
   Calls Try.prog 37 #[.agg #[.bool t.f0, .slice A1 t.f1.length c1, .slice A2 t.f2.length c2], .int .i64 a] W fun e W' => ∃ v, e = .returned v ∧ Kd.N k90 90 W' W.heap.size (fun k => W.heap.size ≤ k) v (flatD d t a) ∧ Below W.heap.size W W' := by
 intro d
 induction d using Nat.strongRecOn with
 | _ d ih => ?_
 intro r t a A1 c1 A2 c2 W hg hd B hB h0 h1 hK hn
 obtain ⟨A1', c1', A2', c2', he, l1, F1, l2, F2⟩ := k56_openF hK
 simp only [List.cons.injEq, Value.slice.injEq, and_true, true_and] at he
 obtain ⟨⟨rfl, rfl⟩, rfl, rfl⟩ := he
 have hb0 : Below W.heap.size W (W.alloc (.cells #[.bool t.f0, .slice A1 t.f1.length c1, .slice A2 t.f2.length c2] 56)) := below_alloc (zZ _ _) _
 have K2 := zA (blk_new W (.cells #[.bool t.f0, .slice A1 t.f1.length c1, .slice A2 t.f2.length c2] 56))
 have HZ := zA (show (W.alloc (.cells #[.bool t.f0, .slice A1 t.f1.length c1, .slice A2 t.f2.length c2] 56)).heap.size = W.heap.size + 1 by simp)
 have HF1 := zA (yF F1 hb0)
 have HF2 := zA (yF F2 hb0)
 have HB := zA hb0
 have HL := zA (And.intro l1 l2)
 have HP := zA (And.intro hd (And.intro h0 h1))
 have HBB := zA hB
 have HG := zA hg
 have HN0 := zA hn
 have IH := zA ih
 have hu56 := Try.underlying56
 have hu90 := Try.underlying90
 clear hb0 ih hd h0 h1 hB hK hn hg F1 F2 l1 l2
 go_enter Try.func37, Try.ntmps37
 go_upto_region 1 with (fail)
 generalize (W.alloc (.cells #[.bool t.f0, .slice A1 t.f1.length c1, .slice A2 t.f2.length c2] 56)) = W0 at *
 obtain ⟨m0, hm0⟩ : ∃ m0, m0 = W.heap.size := ⟨_, rfl⟩
 rw [← hm0] at K2 HB HZ HN0 ⊢
 have HN := zA hm0
 clear hm0
 obtain ⟨z0, z1, z2, u0, u1, u2⟩ := blk_cells3 K2.out
 obtain ⟨kl, hkl⟩ : ∃ kl, kl = (keysD d t).length := ⟨_, rfl⟩
 have HKL := zA hkl
 clear hkl
 go_cut [5] (fun v5 wc => ∃ gn, v5 = .pointer (some ⟨gn, 0, none⟩) ∧ Aside0 (wc.heap[gn]? = some (.cells #[.bool t.f0, .slice none 0 0, .slice none 0 0, .int .i64 (kl : Int)] 90 (0, 0))) ∧ Aside0 (Below (m0 + 1) W0 wc) ∧ Aside0 (m0 + 1 ≤ gn))
 case first =>
   clear IH
   refine start_ (n := 8) (S := fun w' => w'.cell? ⟨m0, 0, none⟩ = some (.bool t.f0) ∧ w'.cell? ⟨m0, 1, none⟩ = some (.slice A1 t.f1.length c1) ∧ w'.cell? ⟨m0, 2, none⟩ = some (.slice A2 t.f2.length c2)) (ds := [7]) #[false, false, false, false, false, false, false, false] (by kernel_rfl) rfl rfl ⟨z0, z1, z2⟩ (fun hHeld => ?_); refine with_tabW flat.gtab1 flat.gbits1 (fun HT_ HW_ => ?_)
   have hb1 := zC (zZ W0.heap.size W0)
   replace K2 := zA (zE K2.out)
   replace HF1 := zA (Kd.F_drew HF1.out)
   replace HF2 := zA (Kd.F_drew HF2.out)
   have HC := zA (show Below (m0 + 1) W0 W0.drew from zC (zZ _ _))
   have HZ1 := zA (show W0.drew.heap.size = m0 + 1 from HZ.out)
   clear z0 z1 z2 u0 u1 u2 hb1
   generalize W0.drew = W1 at *
   refine pure_ (i := 0) (N := some 8) (v := ?_) (a' := ?_) #[true, false, false, false, false, false, false, false] rfl rfl (yM HT_.out (by kernel_rfl)) (fun _ _ _ h => h) (Or.inl ⟨by rfl, ?_⟩) ?_ ?_
   rotate_left
   ·intro w'
    go_simp
    with_reducible rfl
   rotate_left
   ·simp only [Act.put, zN, zO, zP, i64_w, i32_w]
    rfl
   refine take_ (i := 1) (N := some 9) (v := ?_) (a' := ?_) #[true, true, false, false, false, false, false, false] rfl rfl (yL HT_.out HW_.out (by kernel_rfl)) (fun _ _ _ h => h) (Or.inl ⟨by rfl, ?_⟩) hHeld ?_ ?_
   rotate_left
   ·rintro w' ⟨s0, s1, s2⟩
    go_simp
    with_reducible rfl
   rotate_left
   ·simp only [Act.put, zN, zO, zP, i64_w, i32_w]
    rfl
   refine take_ (i := 2) (N := some 10) (v := ?_) (a' := ?_) #[true, true, true, false, false, false, false, false] rfl rfl (yL HT_.out HW_.out (by kernel_rfl)) (fun _ _ _ h => h) (Or.inl ⟨by rfl, ?_⟩) hHeld ?_ ?_
   rotate_left
   ·rintro w' ⟨s0, s1, s2⟩
    go_simp
    with_reducible rfl
   rotate_left
   ·simp only [Act.put, zN, zO, zP, i64_w, i32_w]
    rfl
   refine join_ (σ := Value × Nat) 1 #[true, true, true, true, true, true, true, false] (fun s_ => [(11, s_.1), (12, .int .i64 (kl : Int)), (13, .agg #[.bool t.f0, .slice none 0 0, .slice none 0 0, .int .i64 (kl : Int)]), (5, .pointer (some ⟨s_.2, 0, none⟩))]) (fun s_ w' => Aside0 (w'.heap[s_.2]? = some (.cells #[.bool false, .slice none 0 0, .slice none 0 0, .int .i64 0] 90 (0, 0))) ∧ Aside0 (Below (m0 + 1) W0 w') ∧ Aside0 (m0 + 1 ≤ s_.2)) ?_ ?_
   rotate_left
   ·intro hCont
    have hKE := zA (keys_at d r t (6 * d + 1) HG.out (by have := HP.out; omega) (zY _))
    refine two_ (i := 3) (j := 6) (Ni := some 11) (Nj := some 5) #[true, true, true, true, false, false, false, false] #[true, true, true, false, false, false, true, false] rfl rfl rfl rfl (two_of HT_.out (by kernel_rfl)) (by decide) (by decide) (fun K hK => ?_) (fun K hK => ?_)
    ·skip
     refine goes_ Try.func47 (by kernel_rfl) rfl #[.agg #[.bool t.f0, .slice A1 t.f1.length c1, .slice A2 t.f2.length c2]] (by rfl) rfl rfl (by (try simp only [yG, yH, List.map_nil]); first | done | rfl) ?_
     refine (spec_l3Keys.calls (6 * d + 1) _ _ _ _ _ _ _ _ _ (Kd.F_now HF1.out) HL.out.1 (Kd.F_now HF2.out) HL.out.2 hKE.out).mono ?_
     rintro e W2 ⟨v11, rfl, hR, hb⟩
     obtain ⟨A11, c11, rfl⟩ := Kd.R_slice hR
     rw [← HKL.out] at *
     refine ⟨_, rfl, ?_⟩
     replace K2 := zA (zH K2.out hb)
     replace HC := zA (below_lo HC.out hb (by have := HZ1.out; omega))
     have HZ2 := zA (show m0 + 1 ≤ W2.heap.size by rw [← HZ1.out]; exact hb.size)
     clear hb hR
     obtain ⟨z0, z1, z2, u0, u1, u2⟩ := blk_cells3 K2.out
     refine hK.out _ _ ⟨z0, z1, z2⟩ (fun hHeld => ?_)
     clear z0 z1 z2 u0 u1 u2
     clear hK K
     refine norm_ (a' := ?_) ?_ ?_
     rotate_left
     · show Act.put _ (some 11) _ = _
       simp only [Act.put, zN, zO, zP, i64_w, i32_w]
       rfl
     refine pure_ (i := 4) (N := some 12) (v := ?_) (a' := ?_) #[true, true, true, true, true, false, false, false] rfl rfl (yM HT_.out (by kernel_rfl)) (fun _ _ _ h => h) (Or.inl ⟨by rfl, ?_⟩) ?_ ?_
     rotate_left
     · intro w'
       go_simp
       with_reducible rfl
     rotate_left
     · simp only [Act.put, zN, zO, zP, i64_w, i32_w]
       rfl
     refine pure_ (i := 5) (N := some 13) (v := ?_) (a' := ?_) #[true, true, true, true, true, true, false, false] rfl rfl (yM HT_.out (by kernel_rfl)) (fun _ _ _ h => h) (Or.inl ⟨by rfl, ?_⟩) ?_ ?_
     rotate_left
     · intro w'
       go_simp
       with_reducible rfl
     rotate_left
     · simp only [Act.put, zN, zO, zP, i64_w, i32_w]
       rfl
     refine one_ (i := 6) (N := some 5) #[true, true, true, true, true, true, true, false] rfl rfl (yN HT_.out (by kernel_rfl)) (by decide) (fun K hK => ?_)
     refine box_step ?hg (N := 5) ?hd (cs := #[.bool false, .slice none 0 0, .slice none 0 0, .int .i64 0]) (t := 90) ?hr ?_; (case hd => rfl); (case hg => rfl); (case hr => first | (go_simp; done) | (go_simp; rfl))
     intro gn hgn W3 hbox hb
     replace K2 := zA (zH K2.out hb)
     have KN := zA hbox
     replace HC := zA (below_lo HC.out hb HZ2.out)
     have HGN := zA (show m0 + 1 ≤ gn by rw [hgn]; exact HZ2.out)
     obtain ⟨z0, z1, z2, u0, u1, u2⟩ := blk_cells3 K2.out
     refine hK.out _ _ ⟨z0, z1, z2⟩ (fun hHeld => ?_)
     clear z0 z1 z2 u0 u1 u2 hb hbox hgn
     clear hK K
     refine norm_ (a' := ?_) ?_ ?_
     rotate_left
     · show Act.put _ (some 5) _ = _
       simp only [Act.put, zN, zO, zP, i64_w, i32_w]
       rfl
     exact hCont (.slice A11 kl c11, gn) _ ⟨KN, HC, HGN⟩
    ·skip
     refine box_step ?hg (N := 5) ?hd (cs := #[.bool false, .slice none 0 0, .slice none 0 0, .int .i64 0]) (t := 90) ?hr ?_; (case hd => rfl); (case hg => rfl); (case hr => first | (go_simp; done) | (go_simp; rfl))
     intro gn hgn W3 hbox hb
     replace K2 := zA (zH K2.out hb)
     have KN := zA hbox
     replace HC := zA (below_lo HC.out hb (by have := HZ1.out; omega))
     have HGN := zA (show m0 + 1 ≤ gn by rw [hgn, HZ1.out]; exact zY _)
     have HZ2 := zA (show m0 + 1 ≤ W3.heap.size by rw [← HZ1.out]; exact hb.size)
     replace HF1 := zA (yF HF1.out hb)
     replace HF2 := zA (yF HF2.out hb)
     obtain ⟨z0, z1, z2, u0, u1, u2⟩ := blk_cells3 K2.out
     refine hK.out _ _ ⟨z0, z1, z2⟩ (fun hHeld => ?_)
     clear z0 z1 z2 u0 u1 u2 hb hbox hgn
     clear hK K
     refine norm_ (a' := ?_) ?_ ?_
     rotate_left
     · show Act.put _ (some 5) _ = _
       simp only [Act.put, zN, zO, zP, i64_w, i32_w]
       rfl
     refine one_ (i := 3) (N := some 11) #[true, true, true, true, false, false, true, false] rfl rfl (yN HT_.out (by kernel_rfl)) (by decide) (fun K hK => ?_)
     refine goes_ Try.func47 (by kernel_rfl) rfl #[.agg #[.bool t.f0, .slice A1 t.f1.length c1, .slice A2 t.f2.length c2]] (by rfl) rfl rfl (by (try simp only [yG, yH, List.map_nil]); first | done | rfl) ?_
     refine (spec_l3Keys.calls (6 * d + 1) _ _ _ _ _ _ _ _ _ (Kd.F_now HF1.out) HL.out.1 (Kd.F_now HF2.out) HL.out.2 hKE.out).mono ?_
     rintro e W2 ⟨v11, rfl, hR, hb⟩
     obtain ⟨A11, c11, rfl⟩ := Kd.R_slice hR
     rw [← HKL.out] at *
     refine ⟨_, rfl, ?_⟩
     replace K2 := zA (zH K2.out hb)
     replace HC := zA (below_lo HC.out hb HZ2.out)
     replace KN := zA (zH KN.out hb)
     clear hb hR
     obtain ⟨z0, z1, z2, u0, u1, u2⟩ := blk_cells3 K2.out
     refine hK.out _ _ ⟨z0, z1, z2⟩ (fun hHeld => ?_)
     clear z0 z1 z2 u0 u1 u2
     clear hK K
     refine norm_ (a' := ?_) ?_ ?_
     rotate_left
     · show Act.put _ (some 11) _ = _
       simp only [Act.put, zN, zO, zP, i64_w, i32_w]
       rfl
     refine pure_ (i := 4) (N := some 12) (v := ?_) (a' := ?_) #[true, true, true, true, true, false, true, false] rfl rfl (yM HT_.out (by kernel_rfl)) (fun _ _ _ h => h) (Or.inl ⟨by rfl, ?_⟩) ?_ ?_
     rotate_left
     · intro w'
       go_simp
       with_reducible rfl
     rotate_left
     · simp only [Act.put, zN, zO, zP, i64_w, i32_w]
       rfl
     refine pure_ (i := 5) (N := some 13) (v := ?_) (a' := ?_) #[true, true, true, true, true, true, true, false] rfl rfl (yM HT_.out (by kernel_rfl)) (fun _ _ _ h => h) (Or.inl ⟨by rfl, ?_⟩) ?_ ?_
     rotate_left
     · intro w'
       go_simp
       with_reducible rfl
     rotate_left
     · simp only [Act.put, zN, zO, zP, i64_w, i32_w]
       rfl
     exact hCont (.slice A11 kl c11, gn) _ ⟨KN, HC, HGN⟩
   rintro ⟨v11, gn⟩ w2 ⟨KN, HC2, HGN⟩
   refine norm_ (a' := ?_) ?_ ?_
   rotate_left
   ·simp only [putAll, Act.put, zN, zO, zP]
    rfl
   refine last_ (i := 7) (N := none) #[true, true, true, true, true, true, true, true] rfl rfl (yN HT_.out (by kernel_rfl)) (by decide) (fun K hK => ?_)
   obtain ⟨z0, z1, z2, z3, y0, y1, y2, y3⟩ := blk_cells4 KN.out
   have yl := blk_lt KN.out
   refine skip_ (w1 := ?_) (by rfl) rfl ?_ ?_
   rotate_left
   ·go_simp
    rfl
   refine hK.out _ _ ?_
   clear hK K
   refine done_ (done_of HT_.out (by kernel_rfl)) ?_
   go_wp2_with fail
   go_meet
   case rel => exact ⟨gn, rfl, ⟨blk_put (blk_put (blk_put (blk_put KN.out 0 _ rfl) 1 _ rfl) 2 _ rfl) 3 _ rfl⟩, ⟨(((HC2.out.setCell HGN.out _).setCell HGN.out _).setCell HGN.out _).setCell HGN.out _⟩, HGN⟩
 case rest =>
   obtain ⟨gn, rfl, K5, HC, HGN⟩ := hcut
   have HF1c := zA (Kd.F_step HF1.out (fun k hk _ => HC.out.block k (by have := HN0.out; omega)))
   have HF2c := zA (Kd.F_step HF2.out (fun k hk _ => HC.out.block k (by have := HN0.out; omega)))
   replace K2 := zA ((HC.out.block m0 (by omega)).trans K2.out)
   replace HB := zA (below_same HB.out (below_less HC.out (by omega)))
   have HZ1 := zA (show m0 + 1 ≤ wc.heap.size by rw [← HZ.out]; exact HC.out.size)
   have HGL := zA (show gn < wc.heap.size from blk_lt K5.out)
   clear HF1 HF2 HC HZ z0 z1 z2 u0 u1 u2
   obtain ⟨z0, z1, z2, u0, u1, u2⟩ := blk_cells3 K2.out
   obtain ⟨x0, x1, x2, x3, y0, y1, y2, y3⟩ := blk_cells4 K5.out
   rcases d with _ | d
   case zero =>
    obtain ⟨g0, g1, g2, g3⟩ := HG.out
    rw [g0] at z0 x0
    have HG0 := zA g0
    have HG1 := zA g1
    have HG2 := zA g2
    have HS := zA (FS.nil wc (m0 + 1) gn)
    rw [g0] at K5
    clear IH HF2c HP g0 g1 g2 g3
    go_wp2_with (first
     | ((with_reducible refine gate_dst (N := 16) rfl ?_); refine Kd.R_lit Kd.string (w0 := wc) (m0 + 1) 9 ?hg (N := 16) ?hd (xs := ([] : List ByteArray)) (inner := []) (ok := fun _ => True) (okp := fun _ => True) ?hr ?hp (fun _ hk => hk) trivial ?hB ?hS (by simp) ?_; (case hd => rfl); (case hg => rfl); (case hr => first | (go_simp; done) | (go_simp; rfl)); (case hp => exact (Reps.none _ _)); (case hB => exact ⟨rfl, rfl, rfl, zY _, fun _ _ => rfl⟩); (case hS => exact HZ1.out); intro v16 w3 ho hb hg2 hat; have hbn := below_new hb hg2; have HS3 := zA (FS.keys HS.out ho hg2 (Or.inr hat) HGL.out); have K53 := zA (zH K5.out hbn); have K23 := zA (zH K2.out hbn); have HF13 := zA (yF HF1c.out hbn); have HB3 := zA (below_lo HB.out hbn (Nat.le_of_lt HZ1.out)); have HZ3 := zA (yI HZ1.out hbn.size); have HO3 := zA ho; clear ho hb hg2 hat hbn HS K5 K2 HF1c HB z0 z1 z2 u0 u1 u2 x0 x1 x2 x3 y0 y1 y2 y3; obtain ⟨z0, z1, z2, u0, u1, u2⟩ := blk_cells3 K23.out; obtain ⟨x0, x1, x2, x3, y0, y1, y2, y3⟩ := blk_cells4 K53.out; rw [HG0.out] at z0)
     | ((with_reducible refine gate_builtin (b := .append) (xs := #[.tmp 16, .tmp 18]) rfl ?_); at_builtin; refine Kd.R_append_rows Kd.string (w0 := w3) (m0 + 1) rfl (.tmp 16) (.tmp 18) 38 9 (.string ⟨#[]⟩) 16 rfl Try.underlying38 info9 rfl (by decide) (by omega) v16 [] t.f1 _ _ _ (fun _ => True) (fun _ => False) rfl rfl ?aO ?aR (fun _ _ h => h) (fun _ h => h.elim) ?aF ?aB ?aS ?aL ?_; (case aR => exact Kd.F_now HF13.out); (case aB => exact zZ _ _); (case aF => exact (fun _ _ => trivial)); (case aO => exact HO3.out); (case aS => exact HZ3.out); (case aL => have := HG2.out; simp; omega); intro v19 w4 ho hb hg2 hat; rw [List.nil_append] at ho; have HS4 := zA (FS.keys HS3.out ho hg2 hat (blk_lt K53.out)); have K54 := zA (blk_grown K53.out hg2 HS3.out.kg); have HB4 := zA (below_same HB3.out (below_less hb (by omega))); obtain ⟨A19, c19, e19⟩ := Kd.R_slice ho; subst e19; clear ho hb hg2 hat HS3 K53 K23 HF13 HB3 HO3 z0 z1 z2 u0 u1 u2 x0 x1 x2 x3 y0 y1 y2 y3; obtain ⟨x0, x1, x2, x3, y0, y1, y2, y3⟩ := blk_cells4 K54.out)
     | fail)
    go_ret
    have HS5 := HS4.out.far 1 (.slice A19 t.f1.length c19)
    have HZ5 := zA (show m0 ≤ (w4.setCell ⟨gn, 1, none⟩ (.slice A19 t.f1.length c19)).heap.size by rw [sz_set]; have := blk_lt K54.out; have := HGN.out; omega)
    have hfin := N_lit1 (e := 90) (base := m0) (HS5.node true (kl : Int)) (ok := fun k => m0 ≤ k) (fun _ h => by omega) HZ5.out HZ5.out
    rw [sz_set] at hfin
    rw [← HN.out]
    refine ⟨_, rfl, ?_, ?_⟩
    ·rw [show flatD 0 t a = [⟨true, t.f1, [], (kl : Int)⟩] by rw [HKL.out]; rfl]
     exact hfin
    ·exact (show Below m0 W (w4.setCell ⟨gn, 1, none⟩ (.slice A19 t.f1.length c19)) from HB4.out.setCell (by show m0 ≤ gn; have := HGN.out; omega) _).alloc HZ5.out _
   case succ =>
    obtain ⟨g0, g1, g2, g3, g4⟩ := HG.out
    rw [g0] at z0 x0
    have HG0 := zA g0
    have HG2 := zA g2
    have HG3 := zA g3
    have HG4 := zA g4
    have HS := zA (FS.nil wc (m0 + 1) gn)
    rw [g0] at K5
    clear HF1c g0 g1 g2 g3 g4
    go_wp2_with (first
     | ((with_reducible refine gate_dst (N := 23) rfl ?_); refine Kd.N_lit k90 (w0 := wc) (m0 + 1) 90 ?hg (N' := 23) ?hd (xs := ([] : List S90)) (inner := []) (ok := fun k => ((m0 + 1 ≤ k ∧ k ≠ gn) ∧ some k ≠ (Value.slice none 0 0).ownBlock) ∧ some k ≠ (Value.slice none 0 0).ownBlock) (okp := fun _ => False) ?hr ?hp (fun _ hk => hk.elim) ?hF ?hB ?hS (by simp) ?_; (case hd => rfl); (case hg => rfl); (case hr => first | (go_simp; done) | (go_simp; rfl)); (case hp => exact (Reps.none _ _)); (case hB => exact ⟨rfl, rfl, rfl, zY _, fun _ _ => rfl⟩); (case hS => exact HZ1.out); (case hF => exact (HS.out.fresh HZ1.out HGL.out _ (zY _)).1); intro v23 w3 ho hb hg2 hat; have hbn := below_new hb hg2; have HS3 := zA (FS.rest HS.out ho hg2); have K53 := zA (zH K5.out hbn); have HC3 := zA (below_less (lo := m0 + 1) hbn HZ1.out); obtain ⟨A23, c23, e23⟩ := Kd.N_slice ho; subst e23; clear ho hb hg2 hat hbn HS z0 z1 z2 u0 u1 u2 x0 x1 x2 x3 y0 y1 y2 y3)
     | fail)
    have HC4 := HC3
    clear HC3
    go_loopg [6, 7] t.f2.length (fun kq v6 v7 w' => ∃ (j : Nat) (A3 : Option Addr) (c3 n4 : Nat) (A4 : Option Addr) (c4 n5 : Nat) (A5 : Option Addr) (c5 : Nat) (ks : List ByteArray) (is : List Int) (rs : List S90), v7 = .int .i64 (j : Int) ∧ v6 = .slice A3 rs.length c3 ∧ Aside0 (j ≤ t.f2.length ∧ t.f2.length ≤ kq + j) ∧ Aside0 (ks = sepL d (t.f2.take j) ∧ is = noL (flatD d) (t.f2.take j) (a + 1) ∧ rs = flatL (flatD d) (t.f2.take j) (a + 1)) ∧ Aside0 (w'.heap[gn]? = some (.cells #[.bool false, .slice A4 n4 c4, .slice A5 n5 c5, .int .i64 (kl : Int)] 90 (0, 0))) ∧ Aside0 (FS w' (m0 + 1) gn (.slice A4 n4 c4) (.slice A5 n5 c5) (.slice A3 rs.length c3) ks is rs) ∧ Aside0 (Below (m0 + 1) wc w'))
    case atStart => exact ⟨0, A23, c23, 0, none, 0, 0, none, 0, [], [], [], rfl, rfl, ⟨by omega, by omega⟩, ⟨by simp [sepL], by simp [noL], by simp [flatL]⟩, K53, HS3, HC4⟩
    case round =>
     clear K53 HS3 HC4 K5
     obtain ⟨j, A3, c3, n4, A4, c4, n5, A5, c5, ks, is, rs, rfl, rfl, HI, HQ, K5, HS, HC⟩ := hrel
     replace K2 := zA ((HC.out.block m0 (by omega)).trans K2.out)
     have HF2 := zA (Kd.F_step HF2c.out (fun k hk _ => HC.out.block k (by have := HN0.out; omega)))
     replace HB := zA (below_same HB.out (below_less HC.out (by omega)))
     have HZ := zA (show m0 + 1 ≤ wr.heap.size from yI HZ1.out HC.out.size)
     replace HGL := zA (show gn < wr.heap.size from blk_lt K5.out)
     obtain ⟨z0, z1, z2, u0, u1, u2⟩ := blk_cells3 K2.out
     obtain ⟨x0, x1, x2, x3, y0, y1, y2, y3⟩ := blk_cells4 K5.out
     rw [HG0.out] at z0
     by_cases cj : j < t.f2.length
     case neg =>
       have cjb : decide (j < t.f2.length) = false := zK cj
       have hj : j = t.f2.length := by have := HI.out; omega
       have HK4 := zA (show rs.length ≤ 4 ^ (d + 2) by rw [HQ.out.2.2, hj, List.take_length]; exact flatL_le _ HG3.out HG4.out)
       have HP4 := zA (pow4 (d + 2) 14 (by have := HP.out; omega))
       have HF := zA (show flatD (d + 1) t a = [⟨false, ks, is, (kl : Int)⟩] ++ rs by
         rw [HQ.out.1, HQ.out.2.1, HQ.out.2.2, hj, List.take_length, HKL.out]
         rfl)
       clear hj
       go_wp2_with ((with_reducible refine gate_builtin (b := .append) (xs := #[.tmp 70, .tmp 71]) rfl ?_); at_builtin; refine Kd.N_append_rows k90 (w0 := wr.alloc (.cells #[.bool false, .slice A4 n4 c4, .slice A5 n5 c5, .int .i64 (kl : Int)] 90)) m0 rfl (.tmp 70) (.tmp 71) 22 90 (.agg #[(.bool false), (.slice none 0 0), (.slice none 0 0), (.int .i64 0)]) 64 rfl Try.underlying22 info90 rfl (by decide) (by omega) (.slice (some ⟨wr.heap.size, 0, none⟩) 1 1) [⟨false, ks, is, (kl : Int)⟩] rs _ _ _ (fun k => m0 ≤ k) (fun k => m0 ≤ k ∧ k < wr.heap.size) rfl rfl ?aO ?aR (fun k hk => ⟨hk.1, fun he => absurd hk.2 (by rw [show k = wr.heap.size by simpa [Value.ownBlock] using he]; exact Nat.lt_irrefl _)⟩) ?aF ?aB ?aS ?aL ?_; (case aO => exact N_lit1 (HS.out.node false (kl : Int)) (fun _ h => by omega) (by have := HZ.out; omega) (by have := HZ.out; omega)); (case aR => exact Kd.F_alloc (Kd.F_mono (Kd.F_bound (Kd.N_F HS.out.rr)) (fun k hk => ⟨by have := hk.1.1.1.1; omega, hk.2⟩)) _); (case aB => exact zZ _ _); (case aF => exact fun k hk => by have h2 := below_sz (below_alloc (zZ wr.heap.size wr) (.cells #[.bool false, .slice A4 n4 c4, .slice A5 n5 c5, .int .i64 (kl : Int)] 90)); have := HZ.out; omega); (case aS => exact (by have h2 := below_sz (below_alloc (zZ wr.heap.size wr) (.cells #[.bool false, .slice A4 n4 c4, .slice A5 n5 c5, .int .i64 (kl : Int)] 90)); have := HZ.out; omega)); (case aL => have := HK4.out; have := HP4.out; simp; omega); intro v72 w9 ho hb hg hat; have HR := zA ho; have HB9 := zA (below_same (below_lo HB.out (below_alloc (zZ _ _) _) (by have := HZ.out; omega)) hb); obtain ⟨A72, c72, e72⟩ := Kd.N_slice ho; subst e72; clear ho hb hg hat)
       go_ret
       rw [← HN.out]
       exact ⟨_, rfl, by rw [HF.out]; exact HR.out, HB9.out⟩
     case pos =>
       have cjb : decide (j < t.f2.length) = true := zJ cj
       have CJ := zA cj
       clear cj
       have HLR := zA (show rs.length ≤ 4 ^ (d + 2) by rw [HQ.out.2.2]; exact flatL_le _ (by rw [zW]; have := HG3.out; omega) (fun k hk => HG4.out k (List.mem_of_mem_take hk)))
       have HP4 := zA (pow4 (d + 2) 14 (by have := HP.out; omega))
       have HWA := zA (show wrap64 (a + 1) = a + 1 by have h1 := HP.out; unfold wrap64; omega)
       have HWB := zA (show wrap64 (a + 1 + (rs.length : Int)) = a + 1 + (rs.length : Int) by have h1 := HP.out; have := HLR.out; have := HP4.out; unfold wrap64; omega)
       have HIL := zA (show is.length ≤ 4 by rw [HQ.out.2.1, noL_length, zW]; have := HG3.out; omega)
       go_upto_if 42 with ((with_reducible refine gate_builtin (b := .append) (xs := #[.tmp 32, .tmp 38]) rfl ?_); at_builtin; (try rw [HWA.out]); (try rw [HWB.out]); refine Kd.R_append (Kd.int .i64) (w0 := wr) (m0 + 1) rfl (.tmp 32) (.tmp 38) 88 2 (.int .i64 0) 8 rfl Try.underlying88 info2 rfl (by decide) (by omega) (.slice A5 n5 c5) is (a + 1 + (rs.length : Int)) [.int .i64 (a + 1 + (rs.length : Int))] (fun _ => True) (fun _ => False) rfl rfl ?aP (fun _ hk => hk.elim) ?aF ?aO ?aB ?aS ?aL ?_; (case aP => exact rfl); (case aB => exact zZ _ _); (case aF => exact (fun _ _ => trivial)); (case aO => exact HS.out.ir); (case aS => exact HZ.out); (case aL => have := HIL.out; omega); intro v39 w5 ho hb hg hat; have HS5 := zA (FS.kids HS.out ho hg hat HGL.out); have K55 := zA (blk_grown K5.out hg HS.out.ig); have HC5 := zA (below_same HC.out hb); have K25 := zA ((hb.block m0 (by omega)).trans K2.out); have HF25 := zA (Kd.F_step HF2.out (fun k hk _ => hb.block k (by have := HN0.out; omega))); obtain ⟨A39, c39, e39⟩ := Kd.R_slice ho; subst e39; clear ho hb hg hat HS K5 HC K2 HF2 z0 z1 z2 u0 u1 u2 x0 x1 x2 x3 y0 y1 y2 y3; obtain ⟨x0, x1, x2, x3, y0, y1, y2, y3⟩ := blk_cells4 K55.out; obtain ⟨z0, z1, z2, u0, u1, u2⟩ := blk_cells3 K25.out; rw [HG0.out] at z0)
       rw [show (is ++ [a + 1 + (rs.length : Int)]).length = is.length + 1 by simp] at HS5
       obtain ⟨is2, his2⟩ : ∃ is2, is2 = is ++ [a + 1 + (rs.length : Int)] := ⟨_, rfl⟩
       have HI2 := zA (show is2 = noL (flatD d) (t.f2.take (j + 1)) (a + 1) by rw [his2, noL_take CJ.out, HQ.out.2.1, HQ.out.2.2])
       obtain ⟨n6, hn6⟩ : ∃ n6, n6 = is.length + 1 := ⟨_, rfl⟩
       rw [← his2, ← hn6] at HS5
       rw [← hn6]
       have K56 := zA (show (w5.setCell ⟨gn, 2, none⟩ (.slice A39 n6 c39)).heap[gn]? = some (.cells #[.bool false, .slice A4 n4 c4, .slice A39 n6 c39, .int .i64 (kl : Int)] 90 (0, 0)) from blk_put K55.out 2 _ rfl)
       have HS6 := zA (HS5.out.far 2 (.slice A39 n6 c39))
       have K26 := zA (blk_far K25.out (p := ⟨gn, 2, none⟩) (show m0 ≠ gn by have := HGN.out; omega) (.slice A39 n6 c39))
       have HC6 := zA (show Below (m0 + 1) wc (w5.setCell ⟨gn, 2, none⟩ (.slice A39 n6 c39)) from HC5.out.setCell HGN.out _)
       have HF26 := zA (Kd.F_far HF25.out (p := ⟨gn, 2, none⟩) (fun k hk => by have := HN0.out; have := HGN.out; show k ≠ gn; omega) (.slice A39 n6 c39))
       have HI0 := HI
       clear HS5 K55 K25 HC5 HF25 hn6 his2 HIL HGL HI x0 x1 x2 x3 y0 y1 y2 y3 z0 z1 z2 u0 u1 u2
       generalize (w5.setCell ⟨gn, 2, none⟩ (.slice A39 n6 c39)) = W6 at *
       have HZ6 := zA (show m0 + 1 ≤ W6.heap.size from yI HZ1.out HC6.out.size)
       obtain ⟨ad2, B1, b1, B2, b2, rfl, q0, q1, q2, fk, bl1, bf1, bl2, bf2, hkb⟩ := at_F56r HF26.out j CJ.out
       obtain ⟨kid, hkid⟩ : ∃ kid, kid = rd_T56 t.f2 (j : Int) := ⟨_, rfl⟩
       have HKid := zA (show kid = t.f2[j]'CJ.out from hkid.trans (rd56_at _ _ CJ.out))
       have HKG := zA (show goodD d false kid by rw [HKid.out]; exact HG4.out _ (List.getElem_mem _))
       rw [← hkid] at q0 q1 q2 fk bl1 bf1 bl2 bf2
       have HFK := zA fk
       have HBL := zA (And.intro bl1 bl2)
       have HBF1 := zA bf1
       have HBF2 := zA bf2
       have HQ0 := zA (And.intro q0 (And.intro q1 q2))
       have HKB := zA hkb
       clear hkid fk bl1 bf1 bl2 bf2 q0 q1 q2 hkb
       go_cut [] (fun w' => ∃ (A7 : Option Addr) (n7 c7 : Nat) (ks2 : List ByteArray), Aside0 (ks2 = sepL d (t.f2.take (j + 1))) ∧ Aside0 (w'.heap[gn]? = some (.cells #[.bool false, .slice A7 n7 c7, .slice A39 n6 c39, .int .i64 (kl : Int)] 90 (0, 0))) ∧ Aside0 (FS w' (m0 + 1) gn (.slice A7 n7 c7) (.slice A39 n6 c39) (.slice A3 rs.length c3) ks2 is2 rs) ∧ Aside0 (Below (m0 + 1) W6 w'))
       case first =>
         clear IH HF2c HI0
         by_cases c0 : 0 < j
         case neg =>
           have hj0 : j = 0 := by omega
           rw [show decide (0 < j) = false from zK c0]
           have hk1 : ks = sepL d (t.f2.take (j + 1)) := by
            rw [HQ.out.1, hj0]
            rcases t.f2 with _ | ⟨y, l⟩ <;> simp [sepL]
           clear hj0 c0
           go_wp2_with fail
           go_meet
           case rel => exact ⟨A4, n4, c4, ks, ⟨hk1⟩, K56, HS6, ⟨zZ _ _⟩⟩
         case pos =>
           rw [show decide (0 < j) = true from zJ c0]
           have hk1 : ks ++ [headK d kid] = sepL d (t.f2.take (j + 1)) := by rw [sepL_take CJ.out c0, HQ.out.1, HKid.out]
           have HK1 := zA hk1
           clear hk1 c0
           have p5 : (0 ≤ (j : Int)) = True := eq_true (by omega)
           have q5 : ((j : Int) < (t.f2.length : Int)) = True := eq_true (by have := CJ.out; omega)
           go_upto_region 11 with (fail)
           have HKE := zA (keys_at d false kid (6 * d + 1) HKG.out (by have := HP.out; omega) (zY _))
           obtain ⟨Ks, hKs⟩ : ∃ Ks, Ks = keysD d kid := ⟨_, rfl⟩
           have HKP := zA (show 0 < Ks.length by rw [hKs]; exact keysD_pos HKG.out)
           have HKH := zA (show rdOf ByteArray.empty Ks 0 = headK d kid by rw [hKs]; rfl)
           rw [← hKs] at HKE
           clear hKs
           refine start_ (n := 14) (S := fun w' => w'.heap[m0]? = some (.cells #[.bool t.f0, .slice A1 t.f1.length c1, .slice (some ad2) t.f2.length c2] 56 (0, 0)) ∧ w'.heap[gn]? = some (.cells #[.bool false, .slice A4 n4 c4, .slice A39 n6 c39, .int .i64 (kl : Int)] 90 (0, 0)) ∧ (w'.cell? (ad2.add (j * 3)) = some (.bool kid.f0) ∧ w'.cell? ⟨(ad2.add (j * 3)).block, (ad2.add (j * 3)).off + 1, none⟩ = some (.slice B1 kid.f1.length b1) ∧ w'.cell? ⟨(ad2.add (j * 3)).block, (ad2.add (j * 3)).off + 2, none⟩ = some (.slice B2 kid.f2.length b2))) (ds := [13]) #[false, false, false, false, false, false, false, false, false, false, false, false, false, false] (by kernel_rfl) rfl rfl ⟨K26.out, K56.out, HQ0.out⟩ (fun hHeld => ?_); refine with_tabW flat.gtab11 flat.gbits11 (fun HT_ HW_ => ?_)
           have hbd : Below W6.heap.size W6 W6.drew := below_drew (zZ _ _)
           replace K26 := zA (zH K26.out hbd)
           replace K56 := zA (zH K56.out hbd)
           replace HS6 := zA (HS6.out.below hbd)
           replace HQ0 := zA (And.intro (cell_stay hbd HQ0.out.1) (And.intro (cell_stay hbd HQ0.out.2.1) (cell_stay hbd HQ0.out.2.2)))
           replace HBF1 := zA (yF HBF1.out hbd)
           replace HBF2 := zA (yF HBF2.out hbd)
           have HCB := zA (below_less hbd HZ6.out)
           replace HZ6 := zA (show m0 + 1 ≤ W6.drew.heap.size from yI HZ6.out hbd.size)
           clear hbd
           generalize W6.drew = W7 at *
           refine pure_ (i := 0) (N := some 43) (v := ?_) (a' := ?_) #[true, false, false, false, false, false, false, false, false, false, false, false, false, false] rfl rfl (yM HT_.out (by kernel_rfl)) (fun _ _ _ h => h) (Or.inl ⟨by rfl, ?_⟩) ?_ ?_
           rotate_left
           ·intro w'
            go_simp
            with_reducible rfl
           rotate_left
           ·simp only [Act.put, zN, zO, zP, i64_w, i32_w]
            rfl
           refine take_ (i := 1) (N := some 44) (v := ?_) (a' := ?_) #[true, true, false, false, false, false, false, false, false, false, false, false, false, false] rfl rfl (yL HT_.out HW_.out (by kernel_rfl)) (fun _ _ _ h => h) (Or.inl ⟨by rfl, ?_⟩) hHeld ?_ ?_
           rotate_left
           ·rintro w' ⟨s0, s1, s2⟩
            obtain ⟨x0, x1, x2, x3, y0, y1, y2, y3⟩ := blk_cells4 s1
            go_simp
            with_reducible rfl
           rotate_left
           ·simp only [Act.put, zN, zO, zP, i64_w, i32_w]
            rfl
           refine pure_ (i := 2) (N := some 45) (v := ?_) (a' := ?_) #[true, true, true, false, false, false, false, false, false, false, false, false, false, false] rfl rfl (yM HT_.out (by kernel_rfl)) (fun _ _ _ h => h) (Or.inl ⟨by rfl, ?_⟩) ?_ ?_
           rotate_left
           ·intro w'
            go_simp
            with_reducible rfl
           rotate_left
           ·simp only [Act.put, zN, zO, zP, i64_w, i32_w]
            rfl
           refine take_ (i := 3) (N := some 46) (v := ?_) (a' := ?_) #[true, true, true, true, false, false, false, false, false, false, false, false, false, false] rfl rfl (yL HT_.out HW_.out (by kernel_rfl)) (fun _ _ _ h => h) (Or.inl ⟨by rfl, ?_⟩) hHeld ?_ ?_
           rotate_left
           ·rintro w' ⟨s0, s1, s2⟩
            obtain ⟨z0, z1, z2, u0, u1, u2⟩ := blk_cells3 s0
            go_simp
            with_reducible rfl
           rotate_left
           ·simp only [Act.put, zN, zO, zP, i64_w, i32_w]
            rfl
           refine pure_ (i := 4) (N := some 47) (v := ?_) (a' := ?_) #[true, true, true, true, true, false, false, false, false, false, false, false, false, false] rfl rfl (yM HT_.out (by kernel_rfl)) (fun _ _ _ h => h) (Or.inl ⟨by rfl, ?_⟩) ?_ ?_
           rotate_left
           ·intro w'
            go_simp
            with_reducible rfl
           rotate_left
           ·simp only [Act.put, zN, zO, zP, i64_w, i32_w]
            rfl
           refine pure_ (i := 5) (N := some 48) (v := ?_) (a' := ?_) #[true, true, true, true, true, true, false, false, false, false, false, false, false, false] rfl rfl (yM HT_.out (by kernel_rfl)) (fun _ _ _ h => h) (Or.inl ⟨by rfl, ?_⟩) ?_ ?_
           rotate_left
           ·intro w'
            go_simp
            with_reducible rfl
           rotate_left
           ·simp only [Act.put, zN, zO, zP, i64_w, i32_w]
            rfl
           refine take_ (i := 6) (N := some 49) (v := ?_) (a' := ?_) #[true, true, true, true, true, true, true, false, false, false, false, false, false, false] rfl rfl (yL HT_.out HW_.out (by kernel_rfl)) (fun _ _ _ h => h) (Or.inl ⟨by rfl, ?_⟩) hHeld ?_ ?_
           rotate_left
           ·rintro w' ⟨s0, s1, s2⟩
            obtain ⟨q0, q1, q2⟩ := s2
            go_simp
            with_reducible rfl
           rotate_left
           ·simp only [Act.put, zN, zO, zP, i64_w, i32_w]
            rfl
           refine one_ (i := 7) (N := some 50) #[true, true, true, true, true, true, true, true, false, false, false, false, false, false] rfl rfl (yN HT_.out (by kernel_rfl)) (by decide) (fun K hK => ?_)
           refine goes_ Try.func47 (by kernel_rfl) rfl #[.agg #[.bool kid.f0, .slice B1 kid.f1.length b1, .slice B2 kid.f2.length b2]] (by rfl) rfl rfl (by (try simp only [yG, yH, List.map_nil]); first | done | rfl) ?_
           refine (spec_l3Keys.calls (6 * d + 1) _ _ _ _ _ _ _ _ _ (Kd.F_now HBF1.out) HBL.out.1 (Kd.F_now HBF2.out) HBL.out.2 HKE.out).mono ?_
           rintro e W8 ⟨v50, rfl, hR, hb⟩
           refine ⟨_, rfl, ?_⟩
           obtain ⟨A50, c50, rfl⟩ := Kd.R_slice hR
           obtain ⟨ad50, rfl, h50⟩ := Kd.at_string (Kd.R_reads' hR).2.2 0 (by decide) (by have := HKP.out; omega)
           rw [HKH.out] at h50
           have H50 := zA h50
           have q50 : (0 < Ks.length) = True := eq_true HKP.out
           clear hR h50
           replace K26 := zA (zH K26.out hb)
           replace K56 := zA (zH K56.out hb)
           replace HS6 := zA (HS6.out.below hb)
           replace HQ0 := zA (And.intro (cell_stay hb HQ0.out.1) (And.intro (cell_stay hb HQ0.out.2.1) (cell_stay hb HQ0.out.2.2)))
           replace HCB := zA (below_lo HCB.out hb HZ6.out)
           replace HZ6 := zA (yI HZ6.out (below_sz hb))
           clear hb
           refine hK.out _ _ ⟨K26.out, K56.out, HQ0.out⟩ (fun hHeld => ?_)
           clear hK K
           refine norm_ (a' := ?_) ?_ ?_
           rotate_left
           ·show Act.put _ (some 50) _ = _
            simp only [Act.put, zN, zO, zP, i64_w, i32_w]
            rfl
           refine pure_ (i := 8) (N := some 51) (v := ?_) (a' := ?_) #[true, true, true, true, true, true, true, true, true, false, false, false, false, false] rfl rfl (yM HT_.out (by kernel_rfl)) (fun _ _ _ h => h) (Or.inl ⟨by rfl, ?_⟩) ?_ ?_
           rotate_left
           ·intro w'
            go_simp
            with_reducible rfl
           rotate_left
           ·simp only [Act.put, zN, zO, zP, i64_w, i32_w]
            rfl
           refine one_ (i := 9) (N := some 52) #[true, true, true, true, true, true, true, true, true, true, false, false, false, false] rfl rfl (yN HT_.out (by kernel_rfl)) (by decide) (fun K hK => ?_)
           have h50 := H50.out
           simp only [Int.toNat_zero, Addr.add_zero'] at h50
           refine value_ (w1 := ?_) (v := ?_) (by rfl) rfl ?_ ?_
           rotate_left 2
           ·go_simp
            constructor
            ·rfl
            ·rfl
           refine hK.out _ _ ⟨K26.out, K56.out, HQ0.out⟩ (fun hHeld => ?_)
           clear h50 H50
           clear hK K
           refine norm_ (a' := ?_) ?_ ?_
           rotate_left
           ·show Act.put _ (some 52) _ = _
            simp only [Act.put, zN, zO, zP, i64_w, i32_w]
            rfl
           refine one_ (i := 10) (N := some 53) #[true, true, true, true, true, true, true, true, true, true, true, false, false, false] rfl rfl (yN HT_.out (by kernel_rfl)) (by decide) (fun K hK => ?_)
           refine value_ (w1 := ?_) (v := ?_) (by rfl) rfl ?_ ?_
           rotate_left 2
           ·go_simp
            constructor
            ·rfl
            ·rfl
           have hba : Below W8.heap.size W8 (W8.alloc (.cells #[.string (headK d kid)] 9)) := below_alloc (zZ _ _) _
           refine hK.out _ _ ⟨zH K26.out hba, zH K56.out hba, cell_stay hba HQ0.out.1, cell_stay hba HQ0.out.2.1, cell_stay hba HQ0.out.2.2⟩ (fun hHeld => ?_)
           clear hba
           clear hK K
           refine norm_ (a' := ?_) ?_ ?_
           rotate_left
           ·show Act.put _ (some 53) _ = _
            simp only [Act.put, zN, zO, zP, i64_w, i32_w]
            rfl
           refine one_ (i := 11) (N := some 54) #[true, true, true, true, true, true, true, true, true, true, true, true, false, false] rfl rfl (yN HT_.out (by kernel_rfl)) (by decide) (fun K hK => ?_)
           refine Kd.R_append_step Kd.string (w0 := W8) (W := W8) (m0 + 1) (by rfl) (.tmp 44) (.tmp 53) 38 9 (.string ⟨#[]⟩) 16 rfl Try.underlying38 info9 rfl (by decide) (by omega) (.slice A4 n4 c4) ks (headK d kid) [.string (headK d kid)] (fun _ => True) (fun _ => False) rfl rfl ?aP (fun _ hk => hk.elim) ?aF ?aO ?aB ?aS ?aL ?_
           case aP => exact rfl
           case aB => exact zZ _ _
           case aF => exact (fun _ _ => trivial)
           case aO => exact HS6.out.kr
           case aS => exact HZ6.out
           case aL => rw [show ks.length = j - 1 by rw [HQ.out.1]; simp only [sepL, List.length_map, zX, zW]; have := CJ.out; omega]; have := HG3.out; have := CJ.out; omega
           intro v54 w9 ho hb hg hat
           have HS9 := zA (FS.keys HS6.out ho hg hat (blk_lt K56.out))
           have K59 := zA (blk_grown K56.out hg HS6.out.kg)
           have K29 := zA ((hb.block m0 (by omega)).trans K26.out)
           have HCB9 := zA (below_same HCB.out hb)
           have hq9 : w9.cell? (ad2.add (j * 3)) = some (.bool kid.f0) ∧ w9.cell? ⟨(ad2.add (j * 3)).block, (ad2.add (j * 3)).off + 1, none⟩ = some (.slice B1 kid.f1.length b1) ∧ w9.cell? ⟨(ad2.add (j * 3)).block, (ad2.add (j * 3)).off + 2, none⟩ = some (.slice B2 kid.f2.length b2) := by
            have hcs : ∀ {x : Addr} {v : Value}, x.block < n0 → W8.cell? x = some v → w9.cell? x = some v := fun {x v} hx h => by simpa [World.cell?, hb.block x.block (by have := HN0.out; omega)] using h
            have hblk : (ad2.add (j * 3)).block < n0 := HKB.out
            exact ⟨hcs hblk HQ0.out.1, hcs hblk HQ0.out.2.1, hcs hblk HQ0.out.2.2⟩
           obtain ⟨A54, c54, e54⟩ := Kd.R_slice ho
           subst e54
           clear ho hb hg hat
           refine hK.out _ _ ⟨K29.out, K59.out, hq9⟩ (fun hHeld => ?_)
           clear hq9 HS6 K56 K26 HCB
           clear hK K
           refine norm_ (a' := ?_) ?_ ?_
           rotate_left
           ·show Act.put _ (some 54) _ = _
            simp only [Act.put, zN, zO, zP, i64_w, i32_w]
            rfl
           refine pure_ (i := 12) (N := some 55) (v := ?_) (a' := ?_) #[true, true, true, true, true, true, true, true, true, true, true, true, true, false] rfl rfl (yM HT_.out (by kernel_rfl)) (fun _ _ _ h => h) (Or.inl ⟨by rfl, ?_⟩) ?_ ?_
           rotate_left
           ·intro w'
            go_simp
            with_reducible rfl
           rotate_left
           ·simp only [Act.put, zN, zO, zP, i64_w, i32_w]
            rfl
           refine last_ (i := 13) (N := none) #[true, true, true, true, true, true, true, true, true, true, true, true, true, true] rfl rfl (yN HT_.out (by kernel_rfl)) (by decide) (fun K hK => ?_)
           obtain ⟨x0, x1, x2, x3, y0, y1, y2, y3⟩ := blk_cells4 K59.out
           have yl := blk_lt K59.out
           refine skip_ (w1 := ?_) (by rfl) rfl ?_ ?_
           rotate_left
           ·go_simp
            rfl
           refine hK.out _ _ ?_
           clear hK K
           refine done_ (done_of HT_.out (by kernel_rfl)) ?_
           go_wp2_with fail
           go_meet
           case rel => exact ⟨A54, ks.length + 1, c54, ks ++ [headK d kid], HK1, ⟨blk_put K59.out 1 _ rfl⟩, ⟨by rw [← List.length_singleton (a := headK d kid), ← List.length_append]; exact HS9.out.far 1 _⟩, ⟨HCB9.out.setCell HGN.out _⟩⟩
       case rest =>
         obtain ⟨A7, n7, c7, ks2, HK2, K57, HS7, HCB⟩ := hcut
         replace K26 := zA ((HCB.out.block m0 (by omega)).trans K26.out)
         have HFK7 := zA (Kd.FK_step HFK.out (fun k hk _ => HCB.out.block k (by have := HN0.out; omega)))
         have hcs : ∀ {x : Addr} {v : Value}, x.block < n0 → W6.cell? x = some v → wc.cell? x = some v := fun {x v} hx h => by simpa [World.cell?, HCB.out.block x.block (by have := HN0.out; omega)] using h
         have hblk : (ad2.add (j * 3)).block < n0 := HKB.out
         have q0 := hcs hblk HQ0.out.1
         have q1 := hcs (x := ⟨(ad2.add (j * 3)).block, (ad2.add (j * 3)).off + 1, none⟩) hblk HQ0.out.2.1
         have q2 := hcs (x := ⟨(ad2.add (j * 3)).block, (ad2.add (j * 3)).off + 2, none⟩) hblk HQ0.out.2.2
         replace HC6 := zA (below_same HC6.out HCB.out)
         have HZ7 := zA (show m0 + 1 ≤ wc.heap.size from yI HZ6.out HCB.out.size)
         have HGL := zA (show gn < wc.heap.size from blk_lt K57.out)
         have hzs : n0 ≤ wc.heap.size := by have := HN0.out; have := HZ7.out; omega
         clear hcs hblk HCB HF26 K56 HS6 HBF1 HBF2 HQ0 HFK HKB HZ6 HBL
         obtain ⟨z0, z1, z2, u0, u1, u2⟩ := blk_cells3 K26.out
         have p5 : (0 ≤ (j : Int)) = True := eq_true (by omega)
         have q5 : ((j : Int) < (t.f2.length : Int)) = True := eq_true (by have := CJ.out; omega)
         obtain ⟨P, hP⟩ : ∃ P, P = 4 ^ (d + 2) := ⟨_, rfl⟩
         have HPP := zA hP
         have hB4 : B = 4 * P := by rw [HBB.out, hP, Nat.pow_succ 4 (d + 2)]; omega
         have HB4 := zA hB4
         clear hB4 hP
         go_wp2_with fail
         try rw [HWA.out]
         try rw [HWB.out]
         refine (IH.out d (Nat.lt_succ_self d) false kid (a + 1 + (rs.length : Int)) B1 b1 B2 b2 wc HKG.out (by have := HP.out; omega) P HPP.out (by have := HP.out; omega) (by have := HP.out; have := HB4.out; have h9 := HLR.out; rw [← HPP.out] at h9; have h8 : 0 < P := Nat.lt_of_lt_of_eq (Nat.pow_pos (by decide)) HPP.out.symm; omega) HFK7.out hzs).mono ?_
         clear hzs q0 q1 q2 z0 z1 z2 u0 u1 u2 p5 q5 HFK7
         rintro e W8 ⟨v67, rfl, hN, hb⟩
         have HFL := zA (flatD_le (a + 1 + (rs.length : Int)) HKG.out)
         have HFLP := zA (pow4 (d + 1) 14 (by have := HP.out; omega))
         have HRS := zA (show rs ++ flatD d kid (a + 1 + (rs.length : Int)) = flatL (flatD d) (t.f2.take (j + 1)) (a + 1) by rw [flatL_take CJ.out, ← HQ.out.2.2, HKid.out])
         obtain ⟨fl, hfl⟩ : ∃ fl, fl = flatD d kid (a + 1 + (rs.length : Int)) := ⟨_, rfl⟩
         rw [← hfl] at hN HFL HRS
         clear hfl
         obtain ⟨A67, c67, rfl⟩ := Kd.N_slice hN
         have HFR := zA (HS7.out.fresh HZ7.out HGL.out)
         have HS8 := zA (HS7.out.below hb)
         have K58 := zA (zH K57.out hb)
         have HC8 := zA (below_lo HC6.out hb HZ7.out)
         have HZ8 := zA (yI HZ7.out hb.size)
         have HNF := zA (Kd.N_F hN)
         clear HS7 K57 HC6 hN hb K26
         cases gk with
         | zero => exact absurd HI0.out (by have := CJ.out; omega)
         | succ mm =>
           have HW9 := zA (show wrap64 ((j : Int) + 1) = ((j + 1 : Nat) : Int) from w64s j (by have := CJ.out; have := HG3.out; omega))
           go_wp2_with ((with_reducible refine gate_builtin (b := .append) (xs := #[.tmp 56, .tmp 67]) rfl ?_); at_builtin; refine Kd.N_append_rows k90 (w0 := W8) (m0 + 1) rfl (.tmp 56) (.tmp 67) 22 90 (.agg #[(.bool false), (.slice none 0 0), (.slice none 0 0), (.int .i64 0)]) 64 rfl Try.underlying22 info90 rfl (by decide) (by omega) (.slice A3 rs.length c3) rs fl _ _ _ (fun k => ((m0 + 1 ≤ k ∧ k ≠ gn) ∧ some k ≠ (Value.slice A7 n7 c7).ownBlock) ∧ some k ≠ (Value.slice A39 n6 c39).ownBlock) (fun k => wc.heap.size ≤ k) rfl rfl ?aO ?aR (fun k hk => HFR.out k hk) ?aF ?aB ?aS ?aL ?_; (case aO => exact HS8.out.rr); (case aR => exact HNF.out); (case aB => exact zZ _ _); (case aF => exact fun k hk => (HS8.out.fresh HZ8.out (blk_lt K58.out) k hk).1); (case aS => exact HZ8.out); (case aL => have := HLR.out; have := HP4.out; have := HFL.out; have := HFLP.out; omega); intro v68 w9 ho hb hg hat; have HS9 := zA (FS.rest HS8.out ho hg); have K59 := zA (blk_grown K58.out hg HS8.out.gn_rv); have HC9 := zA (below_same HC8.out hb); obtain ⟨A68, c68, e68⟩ := Kd.N_slice ho; subst e68; clear ho hb hg hat HS8 K58 HC8 HNF HFR)
           go_roundg mm
           case measure => omega
           case rel => exact ⟨j + 1, A68, c68, n7, A7, c7, n6, A39, c39, ks2, is2, rs ++ fl, by rw [HW9.out], by rw [List.length_append], ⟨by have := HI0.out; have := CJ.out; omega⟩, ⟨HK2.out, HI2.out, HRS.out⟩, K59, HS9, HC9⟩

/-! ### zu_of: a text by hand -/
-- uses results_two blk_cells3 ascK depth_at keys_at same_ev nestD
-- import Derived.Laws.ResultCell
-- import Derived.StillTailTactics
-- import Derived.WalkLawsBesides
def lof.gT12 : Bool × List (List Nat × List Nat) := (true, [([], []), ([], []), ([1], [1]), ([], []), ([3], [3]), ([2, 4, 2], [2, 4]), ([0, 5, 0], [0]), ([5, 6, 0, 1, 2, 3, 4, 5, 6], [5])])
def lof.gB12 : List Nat := [0, 0, 2, 0, 8, 30, 63, 127]
theorem lof.gtab12 : rtab .any (opsOf Try.f44 12) = lof.gT12 := by kernel_rfl
theorem lof.gbits12 : waitsOk lof.gT12.2 lof.gB12 = true := by kernel_rfl
theorem heap90 : Kd.Heap k90 := Kd.heap_iso _ (Kd.heap_pair Kd.heap_bool (Kd.heap_pair (Kd.heap_slice _ Kd.heap_string) (Kd.heap_pair (Kd.heap_slice _ (Kd.heap_int .i64)) (Kd.heap_int .i64))))
def OfEnd (ns : List S90) (n0 : Nat) (W : World) (e : Ending) (W' : World) : Prop := ∃ x v1 v2 okk, e = .returned (.tuple #[.agg #[.bool (S56.f0 x), v1, v2], .bool okk]) ∧ Kd.FK k56 W' (fun _ => True) x [.bool x.f0, v1, v2] ∧ Below n0 W W' ∧ (okk = true → ∃ d, okT ns d x) ∧ (okk = false → ∀ d t, ¬ okT ns d t) ∧ (x = z56 ∨ ∃ d, goodD d true x ∧ d ≤ 12)
theorem of_zero {ns : List S90} {m0 : Nat} {W w' : World} (hm : m0 = W.heap.size) (hB : Below m0 W w') (hno : ∀ d t, ¬ okT ns d t) :
  OfEnd ns W.heap.size W (.returned (.tuple #[.agg #[.bool false, .slice none 0 0, .slice none 0 0], .bool false])) (((w'.setCell ⟨m0 + 1, 0, none⟩ (.bool false)).setCell ⟨m0 + 1, 1, none⟩ (.slice none 0 0)).setCell ⟨m0 + 1, 2, none⟩ (.slice none 0 0)) := by
 subst hm
 exact ⟨z56, _, _, false, rfl, FK_nilT _ _ _, below_set3 hB (Nat.le_succ _) _ _ _, fun h => (by cases h), fun _ => hno, Or.inl rfl⟩
theorem asc_snoc {ks : List ByteArray} {j : Nat} (h : j < ks.length) (ha : ascK (ks.take j)) (h1 : (ks[j]).size ≤ 16) (h2 : ∀ h0 : 0 < j, Op.bytesLess (ks[j - 1]'(by omega)).toList (ks[j]).toList = true) : ascK (ks.take (j + 1)) := by
 intro i x hi
 rcases Nat.lt_or_ge i j with c | c
 ·have e : (ks.take (j + 1))[i]? = (ks.take j)[i]? := by rw [List.getElem?_take_of_lt (by omega), List.getElem?_take_of_lt c]
  rw [e] at hi
  refine ⟨(ha i x hi).1, fun y h0 hy => (ha i x hi).2 y h0 ?_⟩
  rwa [List.getElem?_take_of_lt (by omega)] at hy ⊢
 ·have hl := (List.getElem?_eq_some_iff.1 hi).1
  rw [zW] at hl
  have : i = j := by omega
  subst this
  rw [List.getElem?_take_of_lt (by omega), List.getElem?_eq_getElem h] at hi
  injection hi with hi
  subst hi
  refine ⟨h1, fun y h0 hy => ?_⟩
  rw [List.getElem?_take_of_lt (by omega), List.getElem?_eq_getElem (by omega)] at hy
  injection hy with hy
  subst hy
  exact h2 h0
set_option maxHeartbeats 16000000 in
set_option maxRecDepth 100000 in
theorem l3Of_any (ns : List S90) (hl : ns.length ≤ 1048576) (hk2 : ∀ i, (rd_T90 ns i).f2.length ≤ 1048576) (A : Option Addr) (c : Nat) (W : World) (hC : Kd.C k90 W A ns.length ns) (hc : ns.length ≤ c) :
  Calls Try.prog 44 #[.agg #[.slice A ns.length c]] W fun e W' => OfEnd ns W.heap.size W e W' := by
 have hF := Kd.C_F heap90 hC
 have hba : Below W.heap.size W (W.alloc (.cells #[.slice A ns.length c] 24)) := below_alloc (zZ _ _) _
 have hb0 : Below W.heap.size W ((W.alloc (.cells #[.slice A ns.length c] 24)).alloc (.cells #[.bool false, .slice none 0 0, .slice none 0 0] 56)) := below_alloc hba _
 have K1 := zA (zF (blk_new W (.cells #[.slice A ns.length c] 24)) (.cells #[.bool false, .slice none 0 0, .slice none 0 0] 56))
 have K2 := zA (blk_new (W.alloc (.cells #[.slice A ns.length c] 24)) (.cells #[.bool false, .slice none 0 0, .slice none 0 0] 56))
 have HZ := zA (show ((W.alloc (.cells #[.slice A ns.length c] 24)).alloc (.cells #[.bool false, .slice none 0 0, .slice none 0 0] 56)).heap.size = W.heap.size + 2 by simp)
 rw [show (W.alloc (.cells #[.slice A ns.length c] 24)).heap.size = W.heap.size + 1 by simp] at K2
 have HF := zA (yF hF hb0)
 have HB := zA hb0
 have HP := zA (And.intro hl (And.intro hk2 hc))
 have hu56 := Try.underlying56
 clear hba hb0 hl hk2 hC hF hc
 go_enter Try.func44, Try.ntmps44
 go_upto_region 1 with (fail)
 try simp only [World.size_alloc]
 generalize ((W.alloc (.cells #[.slice A ns.length c] 24)).alloc (.cells #[.bool false, .slice none 0 0, .slice none 0 0] 56)) = W0 at *
 obtain ⟨m0, hm0⟩ : ∃ m0, m0 = W.heap.size := ⟨_, rfl⟩
 rw [← hm0] at K1 K2 HB HZ HF ⊢
 have HN := zA hm0
 clear hm0
 obtain ⟨y0, y1, y2, v0, v1, v2⟩ := blk_cells3 K2.out
 have x0 : W0.cell? ⟨m0, 0, none⟩ = some (.slice A ns.length c) := (blk_cell K1.out 0).trans rfl
 by_cases c1 : ns.length < 1
 case pos =>
  have g1 : decide (ns.length < 1) = true := zJ c1
  have g1b : decide ((ns.length : Int) < 1) = true := zJ (by omega)
  have hno : ∀ d t, ¬ okT ns d t := fun d t h => by have := h.pos; omega
  clear c1
  go_wp2_with fail
  refine bodyPost_ret (results_two rfl _ _ (m0 + 1) 56 _ (0, 0) _ rfl (blk_set3 K2.out) hu56 rfl (by kernel_rfl)) rfl ?_
  exact of_zero HN.out HB.out hno
 case neg =>
 have g1 : decide (ns.length < 1) = false := zK c1
 have g1b : decide ((ns.length : Int) < 1) = false := zK (by omega)
 by_cases c2 : 5000 < ns.length
 case pos =>
  have g2 : decide (5000 < ns.length) = true := zJ c2
  have g2b : decide (5000 < (ns.length : Int)) = true := zJ (by omega)
  have hno : ∀ d t, ¬ okT ns d t := fun d t h => by have := h.2.2.1; omega
  clear c1 c2
  go_wp2_with fail
  refine bodyPost_ret (results_two rfl _ _ (m0 + 1) 56 _ (0, 0) _ rfl (blk_set3 K2.out) hu56 rfl (by kernel_rfl)) rfl ?_
  exact of_zero HN.out HB.out hno
 case neg =>
 have g2 : decide (5000 < ns.length) = false := zK c2
 have g2b : decide (5000 < (ns.length : Int)) = false := zK (by omega)
 have HLN := zA (show ns.length ≤ 5000 by omega)
 clear c1 c2
 go_wp2_with fail
 refine (l3Nest_any m0 ns HP.out.1 HP.out.2.1 21 0 (by decide) (Int.le_refl 0) 0 A c W0 HF.out (by have := HZ.out; omega)).mono ?_
 clear x0 y0 y1 y2 v0 v1 v2 g1 g1b g2 g2b
 obtain ⟨q, hq⟩ : ∃ q, q = nestD ns 21 0 := ⟨_, rfl⟩
 have HQ := zA hq
 rw [← hq]
 rintro e W5 ⟨p1, p2, rfl, hK, hb⟩
 clear hq
 obtain ⟨x, after, ok0⟩ := q
 simp only at hK
 obtain ⟨A5, c5, A6, c6, he, _, _, _, _⟩ := k56_openF hK
 simp only [List.cons.injEq, and_true, true_and] at he
 obtain ⟨rfl, rfl⟩ := he
 replace K1 := zA (zH K1.out hb)
 replace K2 := zA (zH K2.out hb)
 replace HF := zA (yF HF.out hb)
 replace HB := zA (below_lo HB.out hb (by have := HZ.out; omega))
 have HZ5 := zA (show m0 + 2 ≤ W5.heap.size by rw [← HZ.out]; exact hb.size)
 have HK := zA (Foot.bound hK)
 clear hb hK
 go_upto_region 4 with (fail)
 have hb5 : Below W5.heap.size W5 (W5.alloc (.cells #[.bool x.f0, .slice A5 x.f1.length c5, .slice A6 x.f2.length c6] 56)) := below_alloc (zZ _ _) _
 have K4 := zA (blk_new W5 (.cells #[.bool x.f0, .slice A5 x.f1.length c5, .slice A6 x.f2.length c6] 56))
 replace K1 := zA (zH K1.out hb5)
 replace K2 := zA (zH K2.out hb5)
 replace HF := zA (yF HF.out hb5)
 replace HB := zA (below_lo HB.out hb5 (by have := HZ5.out; omega))
 have HK5 := zA (yD (ok' := fun k => (k < m0 ∨ m0 + 2 ≤ k) ∧ k < W5.heap.size) (yE HK.out hb5) (fun k hk => ⟨by have := HZ.out; have := hk.1; omega, hk.2⟩))
 clear HZ
 obtain ⟨g4, hg4⟩ : ∃ g4, g4 = W5.heap.size := ⟨_, rfl⟩
 have HZ6 := zA (show (W5.alloc (.cells #[.bool x.f0, .slice A5 x.f1.length c5, .slice A6 x.f2.length c6] 56)).heap.size = g4 + 1 by rw [hg4]; simp)
 rw [← hg4] at K4 HK5 HZ5 ⊢
 clear hb5 hg4 HK
 generalize (W5.alloc (.cells #[.bool x.f0, .slice A5 x.f1.length c5, .slice A6 x.f2.length c6] 56)) = W6 at *
 obtain ⟨y0, y1, y2, v0, v1, v2⟩ := blk_cells3 K2.out
 have x0 : W6.cell? ⟨m0, 0, none⟩ = some (.slice A ns.length c) := (blk_cell K1.out 0).trans rfl
 obtain ⟨z0, z1, z2, u0, u1, u2⟩ := blk_cells3 K4.out
 rcases ok0 with _ | _
 case false =>
  have hno : ∀ d t, ¬ okT ns d t := fun d t h => by
   have h1 := h.nest
   rw [← HQ.out] at h1
   simp at h1
  go_wp2_with fail
  refine bodyPost_ret (results_two rfl _ _ (m0 + 1) 56 _ (0, 0) _ rfl (blk_set3 K2.out) hu56 rfl (by kernel_rfl)) rfl ?_
  exact of_zero HN.out HB.out hno
 case true =>
 by_cases c3 : after = (ns.length : Int)
 case neg =>
  have g3 : (after != (ns.length : Int)) = true := by simp [c3]
  have hno : ∀ d t, ¬ okT ns d t := fun d t h => by
   have h1 := h.nest
   rw [← HQ.out] at h1
   simp only [Prod.mk.injEq] at h1
   exact c3 h1.2.1
  go_wp2_with fail
  refine bodyPost_ret (results_two rfl _ _ (m0 + 1) 56 _ (0, 0) _ rfl (blk_set3 K2.out) hu56 rfl (by kernel_rfl)) rfl ?_
  exact of_zero HN.out HB.out hno
 case pos =>
 subst c3
 have g3 : ((ns.length : Int) != (ns.length : Int)) = false := by simp
 have hsh : shapeN 21 x := by
  have h1 := shape_nest ns 21 0 (by rw [← HQ.out])
  rw [← HQ.out] at h1
  exact h1
 have HDP := zA (depth_at 21 true x 168 hsh (zY _) (zY _))
 obtain ⟨_, _, _, _, he, l1, F1, l2, F2⟩ := k56_openF HK5.out
 simp only [List.cons.injEq, Value.slice.injEq, and_true, true_and] at he
 obtain ⟨⟨rfl, rfl⟩, rfl, rfl⟩ := he
 have HF1 := zA F1
 have HF2 := zA F2
 have HL := zA (And.intro l1 l2)
 clear hsh F1 F2 l1 l2
 obtain ⟨dd, hdd⟩ : ∃ dd, dd = depM 21 true x := ⟨_, rfl⟩
 rw [← hdd] at HDP
 have HDD := zA hdd
 clear hdd
 go_wp2_with fail
 refine (spec_l3Depth.calls 168 _ _ _ _ _ _ _ _ _ _ (Kd.F_now HF1.out) HL.out.1 (Kd.F_now HF2.out) HL.out.2 HDP.out).mono ?_
 rintro e W7 ⟨rfl, hb⟩
 replace K1 := zA (zH K1.out hb)
 replace K2 := zA (zH K2.out hb)
 replace K4 := zA (zH K4.out hb)
 replace HF := zA (yF HF.out hb)
 replace HK5 := zA (yE HK5.out hb)
 replace HF1 := zA (yF HF1.out hb)
 replace HF2 := zA (yF HF2.out hb)
 replace HB := zA (below_lo HB.out hb (by have := HZ6.out; have := HZ5.out; omega))
 replace HZ6 := zA (show g4 + 1 ≤ W7.heap.size by rw [← HZ6.out]; exact hb.size)
 clear hb x0 y0 y1 y2 v0 v1 v2 z0 z1 z2 u0 u1 u2 g3
 obtain ⟨y0, y1, y2, v0, v1, v2⟩ := blk_cells3 K2.out
 have x0 : W7.cell? ⟨m0, 0, none⟩ = some (.slice A ns.length c) := (blk_cell K1.out 0).trans rfl
 obtain ⟨z0, z1, z2, u0, u1, u2⟩ := blk_cells3 K4.out
 by_cases c4 : dd < 0
 case pos =>
  have g4b : decide (dd < 0) = true := zJ c4
  have hno : ∀ d t, ¬ okT ns d t := fun d t h => by
   have h1 := h.nest
   rw [← HQ.out] at h1
   simp only [Prod.mk.injEq, and_true] at h1
   have h2 := depM_of d 21 true t h.1 (by have := h.depth; omega)
   rw [← h1, ← HDD.out] at h2
   omega
  go_wp2_with fail
  refine bodyPost_ret (results_two rfl _ _ (m0 + 1) 56 _ (0, 0) _ rfl (blk_set3 K2.out) hu56 rfl (by kernel_rfl)) rfl ?_
  exact of_zero HN.out HB.out hno
 case neg =>
 have g4b : decide (dd < 0) = false := zK c4
 have hgd := okT_of_nest HQ.out.symm (by rw [← HDD.out]; omega) HLN.out
 rw [← HDD.out] at hgd
 obtain ⟨d, hd⟩ : ∃ d, d = dd.toNat := ⟨_, rfl⟩
 rw [← hd] at hgd
 have HG := zA hgd
 have HD := zA hd
 have HDN := zA (show dd = (d : Int) by omega)
 have HKE := zA (keys_at d true x (6 * d + 1) hgd.1 (by omega) (zY _))
 clear hgd hd c4 HDP
 go_wp2_with fail
 refine (spec_l3Keys.calls (6 * d + 1) _ _ _ _ _ _ _ _ _ (Kd.F_now HF1.out) HL.out.1 (Kd.F_now HF2.out) HL.out.2 HKE.out).mono ?_
 clear x0 y0 y1 y2 v0 v1 v2 z0 z1 z2 u0 u1 u2 g4b HKE
 rintro e W8 ⟨v7, rfl, hR, hb⟩
 obtain ⟨Ks, hKs⟩ : ∃ Ks, Ks = keysD d x := ⟨_, rfl⟩
 rw [← hKs] at hR
 obtain ⟨A7, c7, rfl⟩ := Kd.R_slice hR
 have HKS := zA hKs
 have HR := zA (Kd.R_reads' hR).2.2
 replace K1 := zA (zH K1.out hb)
 replace K2 := zA (zH K2.out hb)
 replace K4 := zA (zH K4.out hb)
 replace HF := zA (yF HF.out hb)
 replace HK5 := zA (yE HK5.out hb)
 replace HB := zA (below_lo HB.out hb (by have := HZ6.out; have := HZ5.out; omega))
 replace HZ6 := zA (show g4 + 1 ≤ W8.heap.size from yI HZ6.out hb.size)
 have HKL := zA (show Ks.length ≤ 9223372036854775807 from (Kd.R_reads' hR).2.2.2.1)
 clear hb hR hKs HF1 HF2
 go_wp2_with fail
 go_loopg [8] Ks.length (fun kq v8 w' => ∃ j : Nat, v8 = .int .i64 (j : Int) ∧ Aside0 (j ≤ Ks.length ∧ Ks.length ≤ kq + j) ∧ Aside0 (ascK (Ks.take j)) ∧ Aside0 (Below W8.heap.size W8 w'))
 case atStart => exact ⟨0, rfl, ⟨by omega, by omega⟩, ⟨fun j x h => by simp at h⟩, ⟨zZ _ _⟩⟩
 case round =>
  obtain ⟨j, rfl, HI, HA, HC⟩ := hrel
  replace K1 := zA (zH K1.out HC.out)
  replace K2 := zA (zH K2.out HC.out)
  replace K4 := zA (zH K4.out HC.out)
  replace HF := zA (yF HF.out HC.out)
  replace HK5 := zA (yE HK5.out HC.out)
  replace HR := zA (zQ HR.out HC.out)
  replace HB := zA (below_lo HB.out HC.out (by have := HZ6.out; have := HZ5.out; omega))
  replace HZ6 := zA (yI HZ6.out (below_sz HC.out))
  by_cases cj : j < Ks.length
  case neg =>
   have cjb : decide (j < Ks.length) = false := zK cj
   have hj : j = Ks.length := by have := HI.out; omega
   have HAS := zA (show ascK Ks by have := HA.out; rwa [hj, List.take_length] at this)
   clear hj cj
   go_wp2_with fail
   refine start_ (n := 8) (S := fun w' => w'.heap[m0]? = some (.cells #[.slice A ns.length c] 24 (0, 0)) ∧ w'.heap[g4]? = some (.cells #[.bool x.f0, .slice A5 x.f1.length c5, .slice A6 x.f2.length c6] 56 (0, 0))) (ds := []) #[false, false, false, false, false, false, false, false] (by kernel_rfl) rfl rfl ⟨K1.out, K4.out⟩ (fun hHeld => ?_); refine with_tabW lof.gtab12 lof.gbits12 (fun HT_ HW_ => ?_)
   have hbd : Below wr.heap.size wr wr.drew := below_drew (zZ _ _)
   replace K1 := zA (zH K1.out hbd)
   replace K2 := zA (zH K2.out hbd)
   replace K4 := zA (zH K4.out hbd)
   replace HF := zA (yF HF.out hbd)
   replace HK5 := zA (yE HK5.out hbd)
   replace HB := zA (below_lo HB.out hbd (by have := HZ6.out; have := HZ5.out; omega))
   replace HZ6 := zA (yI HZ6.out (below_sz hbd))
   clear hbd
   generalize wr.drew = W9 at *
   refine take_ (i := 0) (N := some 73) (v := ?_) (a' := ?_) #[true, false, false, false, false, false, false, false] rfl rfl (yL HT_.out HW_.out (by kernel_rfl)) (fun _ _ _ h => h) (Or.inl ⟨by rfl, ?_⟩) hHeld ?_ ?_
   rotate_left
   ·rintro w' ⟨s0, s1⟩
    obtain ⟨z0, z1, z2, u0, u1, u2⟩ := blk_cells3 s1
    go_simp
    with_reducible rfl
   rotate_left
   ·simp only [Act.put, zN, zO, zP, i64_w, i32_w]
    rfl
   refine take_ (i := 1) (N := some 74) (v := ?_) (a' := ?_) #[true, true, false, false, false, false, false, false] rfl rfl (yL HT_.out HW_.out (by kernel_rfl)) (fun _ _ _ h => h) (Or.inl ⟨by rfl, ?_⟩) hHeld ?_ ?_
   rotate_left
   ·rintro w' ⟨s0, s1⟩
    obtain ⟨z0, z1, z2, u0, u1, u2⟩ := blk_cells3 s1
    go_simp
    with_reducible rfl
   rotate_left
   ·simp only [Act.put, zN, zO, zP, i64_w, i32_w]
    rfl
   refine pure_ (i := 3) (N := some 76) (v := ?_) (a' := ?_) #[true, true, false, true, false, false, false, false] rfl rfl (yM HT_.out (by kernel_rfl)) (fun _ _ _ h => h) (Or.inl ⟨by rfl, ?_⟩) ?_ ?_
   rotate_left
   ·intro w'
    go_simp
    with_reducible rfl
   rotate_left
   ·simp only [Act.put, zN, zO, zP, i64_w, i32_w]
    rfl
   refine take_ (i := 4) (N := some 77) (v := ?_) (a' := ?_) #[true, true, false, true, true, false, false, false] rfl rfl (yL HT_.out HW_.out (by kernel_rfl)) (fun _ _ _ h => h) (Or.inl ⟨by rfl, ?_⟩) hHeld ?_ ?_
   rotate_left
   ·rintro w' ⟨s0, s1⟩
    have x0 : w'.cell? ⟨m0, 0, none⟩ = some (.slice A ns.length c) := (blk_cell s0 0).trans rfl
    go_simp
    with_reducible rfl
   rotate_left
   ·simp only [Act.put, zN, zO, zP, i64_w, i32_w]
    rfl
   refine one_ (i := 2) (N := some 75) #[true, true, true, true, true, false, false, false] rfl rfl (yN HT_.out (by kernel_rfl)) (by decide) (fun K hK => ?_)
   refine goes_ Try.func37 (by kernel_rfl) rfl #[.agg #[.bool x.f0, .slice A5 x.f1.length c5, .slice A6 x.f2.length c6], .int .i64 0] (by rfl) rfl rfl (by (try simp only [yG, yH, List.map_nil]); first | done | rfl) ?_
   refine (l3Flat_any g4 d true x 0 A5 c5 A6 c6 W9 HG.out.1 (Nat.le_succ_of_le HG.out.2) (4 ^ (d + 2)) rfl (Int.le_refl 0) (by have h1 := pow4 (d + 2) 14 (by have := HG.out.2; omega); omega) (yD HK5.out (fun k hk => hk.2)) (by have := HZ6.out; omega)).mono ?_
   rintro e W10 ⟨v75, rfl, hN, hb⟩
   refine ⟨_, rfl, ?_⟩
   have HSM := zA (flatD_small (0 : Int) HG.out.1)
   have HFE := zA (show ∀ h : flatD d x 0 = ns, okT ns d x from fun h => ⟨HG.out.1, h, HLN.out, by rw [← HKS.out]; exact HAS.out⟩)
   have HFN := zA (show ∀ d2 t2, okT ns d2 t2 → flatD d x 0 = ns from fun d2 t2 h => by
  have h1 := h.nest
  rw [← HQ.out] at h1
  simp only [Prod.mk.injEq, and_true] at h1
  subst h1
  have h2 := depM_of d2 21 true x h.1 (by have := h.depth; omega)
  rw [← HDD.out, HDN.out] at h2
  have h3 : d = d2 := by omega
  subst h3
  exact h.2.1)
   obtain ⟨fl, hfl⟩ : ∃ fl, fl = flatD d x 0 := ⟨_, rfl⟩
   rw [← hfl] at hN HSM HFE HFN
   clear hfl
   obtain ⟨A75, c75, rfl⟩ := Kd.N_slice hN
   have HNR := zA (Kd.N_reads' hN)
   replace K1 := zA (zH K1.out hb)
   replace K2 := zA (zH K2.out hb)
   replace K4 := zA (zH K4.out hb)
   replace HF := zA (yF HF.out hb)
   replace HK5 := zA (yE HK5.out hb)
   replace HB := zA (below_lo HB.out hb (by have := HZ6.out; have := HZ5.out; omega))
   replace HZ6 := zA (yI HZ6.out (below_sz hb))
   clear hb hN
   refine hK.out _ _ ⟨K1.out, K4.out⟩ (fun hHeld => ?_)
   clear hK K
   refine norm_ (a' := ?_) ?_ ?_
   rotate_left
   ·show Act.put _ (some 75) _ = _
    simp only [Act.put, zN, zO, zP, i64_w, i32_w]
    rfl
   refine one_ (i := 5) (N := some 78) #[true, true, true, true, true, true, false, false] rfl rfl (yN HT_.out (by kernel_rfl)) (by decide) (fun K hK => ?_)
   refine goes_ Try.func68 (by kernel_rfl) rfl #[.slice A75 fl.length c75, .slice A ns.length c] (by rfl) rfl rfl (by (try simp only [yG, yH, List.map_nil]); first | done | rfl) ?_
   obtain ⟨ks_, hks_⟩ := (same_ev (x0 := fl) (x1 := ns) HNR.out.2.2.2.1 (fun n hn => by have := HSM.out n hn; omega)).rounds
   refine (spec_l3SameNodes.calls ks_ _ _ _ _ _ _ _ _ HNR.out.2.2 HNR.out.2.1 (Kd.F_now HF.out) HP.out.2.2 hks_).mono ?_
   rintro e W11 ⟨rfl, hdr⟩
   refine ⟨_, rfl, ?_⟩
   have hb := hdr.below
   replace K1 := zA (zH K1.out hb)
   replace K2 := zA (zH K2.out hb)
   replace K4 := zA (zH K4.out hb)
   replace HF := zA (yF HF.out hb)
   replace HK5 := zA (yE HK5.out hb)
   replace HB := zA (below_lo HB.out hb (by have := HZ6.out; have := HZ5.out; omega))
   replace HZ6 := zA (yI HZ6.out (below_sz hb))
   clear hb hdr hks_
   refine hK.out _ _ ⟨K1.out, K4.out⟩ (fun hHeld => ?_)
   clear hK K
   refine norm_ (a' := ?_) ?_ ?_
   rotate_left
   ·show Act.put _ (some 78) _ = _
    simp only [Act.put, zN, zO, zP, i64_w, i32_w]
    rfl
   refine one_ (i := 6) (N := none) #[true, true, true, true, true, true, true, false] rfl rfl (yN HT_.out (by kernel_rfl)) (by decide) (fun K hK => ?_)
   obtain ⟨y0, y1, y2, v0, v1, v2⟩ := blk_cells3 K2.out
   have yl := blk_lt K2.out
   refine skip_ (w1 := ?_) (by rfl) rfl ?_ ?_
   rotate_left
   ·go_simp
    rfl
   refine hK.out _ _ ⟨(set3_other _ _ _ (by omega)).trans K1.out, (set3_other _ _ _ (by have := HZ5.out; omega)).trans K4.out⟩ (fun hHeld => ?_)
   clear hK K
   refine pure_ (i := 7) (N := some 3) (v := ?_) (a' := ?_) #[true, true, true, true, true, true, true, true] rfl rfl (yM HT_.out (by kernel_rfl)) (fun _ _ _ h => h) (Or.inl ⟨by rfl, ?_⟩) ?_ ?_
   rotate_left
   ·intro w'
    go_simp
    with_reducible rfl
   rotate_left
   ·simp only [Act.put, zN, zO, zP, i64_w, i32_w]
    rfl
   refine done_ (done_of HT_.out (by kernel_rfl)) ?_
   go_wp2_with fail
   refine bodyPost_ret (results_two rfl _ _ (m0 + 1) 56 _ (0, 0) _ rfl (blk_set3 K2.out) hu56 rfl (by kernel_rfl)) rfl ?_
   refine ⟨x, .slice A5 x.f1.length c5, .slice A6 x.f2.length c6, iteB (fl = ns) true, rfl, ?_, ?_, fun h => ?_, fun h d2 t2 h2 => ?_, Or.inr ⟨d, HG.out⟩⟩
   ·exact yD (Kd.FK_step HK5.out (fun k hk _ => set3_other _ _ _ (by omega))) (fun _ _ => trivial)
   ·rw [← HN.out]
    exact below_set3 HB.out (Nat.le_succ _) _ _ _
   ·by_cases hf : fl = ns
    ·exact ⟨d, HFE.out hf⟩
    ·rw [iteB_neg hf] at h; cases h
   ·have hf := HFN.out d2 t2 h2
    rw [iteB_pos hf] at h
    cases h
  case pos =>
   have cjb : decide (j < Ks.length) = true := zJ cj
   obtain ⟨mm, rfl⟩ : ∃ mm, gk = mm + 1 := ⟨gk - 1, by have := HI.out; omega⟩
   obtain ⟨ad, rfl, hx⟩ := Kd.at_string HR.out (j : Int) (by omega) (by omega)
   rw [rdb_at _ _ cj] at hx
   simp only [Int.toNat_natCast] at hx
   obtain ⟨y0, y1, y2, v0, v1, v2⟩ := blk_cells3 K2.out
   have CJ := zA cj
   have HW9 := zA (w64m j (by have := HKL.out; omega))
   have p5 : (0 ≤ (j : Int)) = True := eq_true (by omega)
   have q5 : ((j : Int) < (Ks.length : Int)) = True := eq_true (by omega)
   have q6 : (j < Ks.length) = True := eq_true cj
   obtain ⟨key, hkey⟩ : ∃ key, key = Ks[j]'cj := ⟨_, rfl⟩
   rw [← hkey] at hx
   have HKY := zA hkey
   clear hkey
   have bad : ¬ (key.size ≤ 16 ∧ ∀ h0 : 0 < j, Op.bytesLess (Ks[j - 1]'(by have := CJ.out; omega)).toList key.toList = true) → ∀ d t, ¬ okT ns d t := fun hb d' t h => by
    have h1 := h.nest
    rw [← HQ.out] at h1
    simp only [Prod.mk.injEq, and_true] at h1
    subst h1
    have h2 := depM_of d' 21 true x h.1 (by have := h.depth; omega)
    rw [← HDD.out, HDN.out] at h2
    have h3 : d = d' := by omega
    subst h3
    have h4 := h.2.2.2
    rw [← HKS.out] at h4
    apply hb
    have h5 := h4 j key (by rw [HKY.out]; exact List.getElem?_eq_getElem CJ.out)
    exact ⟨h5.1, fun h0 => h5.2 _ h0 (List.getElem?_eq_getElem (by have := CJ.out; omega))⟩
   have HBAD := zA bad
   clear bad
   by_cases c1 : 16 < key.size
   case pos =>
    have d1 : decide (16 < (key.size : Int)) = true := zJ (by omega)
    have d1b : decide (16 < key.size) = true := zJ c1
    have hno := HBAD.out (fun h => by omega)
    go_wp2_with fail
    go_quiet (fail)
    go_wp2_with fail
    refine bodyPost_ret (results_two rfl _ _ (m0 + 1) 56 _ (0, 0) _ rfl (blk_set3 (zD K2.out _)) hu56 rfl (by kernel_rfl)) rfl ?_
    exact of_zero HN.out (zB HB.out _) hno
   case neg =>
    have d1 : decide (16 < (key.size : Int)) = false := zK (by omega)
    have d1b : decide (16 < key.size) = false := zK c1
    by_cases c0 : 0 < j
    case neg =>
     have d0 : decide (0 < (j : Int)) = false := zK (by omega)
     have d0b : decide (0 < j) = false := zK c0
     go_wp2_with fail
     go_quiet (fail)
     go_wp2_with fail
     go_roundg mm
     case measure => omega
     case rel => exact ⟨j + 1, by first | (rw [HW9.out]; done) | (simp; done), ⟨by have := HI.out; have := CJ.out; omega⟩, ⟨asc_snoc CJ.out HA.out (by rw [← HKY.out]; omega) (fun h0 => absurd h0 c0)⟩, ⟨zB HC.out _⟩⟩
    case pos =>
     have d0 : decide (0 < (j : Int)) = true := zJ (by omega)
     have d0b : decide (0 < j) = true := zJ c0
     obtain ⟨ad', e2, hx0⟩ := Kd.at_string HR.out ((j - 1 : Nat) : Int) (by omega) (by omega)
     cases e2
     rw [rdb_at _ _ (by omega : j - 1 < Ks.length)] at hx0
     simp only [Int.toNat_natCast] at hx0
     have s1 : IntKind.i64.wrap ((j : Int) - 1) = (j : Int) - 1 := by rw [i64_w]; have := HKL.out; unfold wrap64; omega
     have s2 : 1 ≤ (j : Int) := by omega
     have s2b : 1 ≤ j := by omega
     have s3 : ((j : Int) - 1).toNat = j - 1 := by omega
     have s4 : (j : Int) - 1 < (Ks.length : Int) := by omega
     cases hb : Op.bytesLess (Ks[j - 1]'(by omega)).toList key.toList
     case false =>
      have hno := HBAD.out (fun h => by have := h.2 c0; rw [hb] at this; cases this)
      go_wp2_with fail
      go_quiet (fail)
      go_wp2_with fail
      refine bodyPost_ret (results_two rfl _ _ (m0 + 1) 56 _ (0, 0) _ rfl (blk_set3 (zD K2.out _)) hu56 rfl (by kernel_rfl)) rfl ?_
      exact of_zero HN.out (zB HB.out _) hno
     case true =>
      go_wp2_with fail
      go_quiet (fail)
      go_wp2_with fail
      go_roundg mm
      case measure => omega
      case rel => exact ⟨j + 1, by first | (rw [HW9.out]; done) | (simp; done), ⟨by have := HI.out; have := CJ.out; omega⟩, ⟨asc_snoc CJ.out HA.out (by rw [← HKY.out]; omega) (fun h0 => by rw [← HKY.out]; exact hb)⟩, ⟨zB HC.out _⟩⟩

/-! ### zv_meth: a text by hand -/
-- the methods of impl's nodes, called through the interface
theorem run_invoke {P : Program} {oi : Oper} {a : Act} {w : World} {recv : Operand} {name : String} {t : TypeId} {v : Value} {f : FuncId} {args : Array Value} (hop : oi.op = .call { callee := .invoke recv name, args := #[], argTypes := #[] }) (hv : a.eval recv = .iface t v)
  (hm : (callMethod (.iface t v) name #[]).run P w = .ok (.enter f args) w) : (execOp a.eval oi).run P w = .ok (.enter f args) w := by
 have hm2 : (invoke (.fn (.method name) #[]) #[.iface t v]).run P w = .ok (.enter f args) w := by
  simpa [invoke] using hm
 unfold execOp
 simp [hop, resolve, hv, hm2]
theorem goesI_ {P : Program} {ops : Array Oper} {Q : Exit → Act → World → Prop} {rest : List Oper} {oi : Oper} {a : Act} {w : World} (N : Option Tmp) (hd : oi.dst = N) (hg : oi.guard = none) (f : FuncId) (args : Array Value)
  (hrun : (execOp a.eval oi).run P w = .ok (.enter f args) w) (h : Calls P f args w fun e w' => ∃ v, e = .returned v ∧ wpList P ops Q rest (a.put N v) w') : wpList P ops Q (oi :: rest) a w := by
 refine wpList_plain hg fun K hK => ?_
 unfold Oper.wp
 rw [hrun, Oper.upon_enter]
 refine h.mono fun e w'' hh => ?_
 obtain ⟨v, rfl, hk⟩ := hh
 subst hd
 exact hK _ _ hk
theorem m_least0 (p : Value) (w : World) : (callMethod (.iface 58 p) "loop.example/s01136/impl.least" #[]).run Try.prog w = .ok (.enter 125 #[p]) w := by kernel_rfl
theorem m_leastS (p : Value) (w : World) : (callMethod (.iface 79 p) "loop.example/s01136/impl.least" #[]).run Try.prog w = .ok (.enter 126 #[p]) w := by kernel_rfl
theorem run_load85 {w : World} {b t : Nat} {n : Int} {v : Value} (h : w.heap[b]? = some (.cells #[.int .i64 n, v] t (0, 0))) : (loadVar 85 ⟨b, 0, none⟩).run Try.prog w = .ok (.agg #[.int .i64 n]) w := by
 have x0 : w.cell? ⟨b, 0, none⟩ = some (.int .i64 n) := (blk_cell h 0).trans rfl
 have hu := Try.underlying85
 go_simp
theorem meth_keys {tp ts : Nat} {fs : Array Field} (hm : ((Try.prog.info? tp).bind fun I => (I.methods.find? (·.name == "loop.example/s01136/impl.keys")).map fun m => (m.path.toList, m.func)) = some ([⟨ts, 0, true⟩], some (124, false))) (hu : Try.prog.underlying ts = some (.struct fs)) (hf : (fs[0]?).map (fun f => (f.type, f.offset)) = some (85, 0)) (b : Nat) (w : World) {n : Int} (hl : (loadVar 85 ⟨b, 0, none⟩).run Try.prog w = .ok (.agg #[.int .i64 n]) w) : (method (Try.prog.types.size + Made.depth) tp (.pointer (some ⟨b, 0, none⟩)) "loop.example/s01136/impl.keys").run Try.prog w = .ok ((124 : FuncId), .agg #[.int .i64 n]) w := by
 obtain ⟨N, hN⟩ : ∃ N, Try.prog.types.size + Made.depth = N + 1 := ⟨Try.prog.types.size + Made.depth - 1, by kernel_rfl⟩
 rw [hN]
 rw [Option.bind_eq_some_iff] at hm
 obtain ⟨I, hI, hm⟩ := hm
 rw [Option.map_eq_some_iff] at hm
 obtain ⟨m, hfind, hm⟩ := hm
 simp only [Prod.mk.injEq] at hm
 rw [Option.map_eq_some_iff] at hf
 obtain ⟨f, hf, hff⟩ := hf
 simp only [Prod.mk.injEq] at hff
 have hu85 := Try.underlying85
 have hsz : (Try.prog.info? 85).map (·.size) = some 1 := by kernel_rfl
 rw [Option.map_eq_some_iff] at hsz
 obtain ⟨J, hJ, hJs⟩ := hsz
 have hti : (typeInfo tp).run Try.prog w = .ok I w := by simp [typeInfo, Sem.run_bind, run_program, hI]
 have htj : (typeInfo 85).run Try.prog w = .ok J w := by simp [typeInfo, Sem.run_bind, run_program, hJ]
 simp only [method, Sem.run_bind, hti, Result.andThen_ok, hfind, hm.1, hm.2, follow, run_underlying hu, hf]
 simp [follow, asAddr, fieldPlace, receiverAt, Place.get, Sem.run_bind, run_underlying hu85, hff.1, hff.2, sizeOf, htj, hJs, Addr.add, hl, hm.1, hm.2]
theorem m_keys0 {w : World} {b : Nat} {n : Int} {v : Value} (h : w.heap[b]? = some (.cells #[.int .i64 n, v] 93 (0, 0))) : (callMethod (ifP 58 b) "loop.example/s01136/impl.keys" #[]).run Try.prog w = .ok (.enter 124 #[.agg #[.int .i64 n]]) w := by
 have e := meth_keys (tp := 58) (ts := 93) (by kernel_rfl) Try.underlying93 rfl b w (run_load85 h)
 unfold ifP callMethod
 simp only [Sem.run_bind, run_program, Result.andThen_ok, e]
 have e2 : (callFunc 124 (#[Value.agg #[.int .i64 n]] ++ #[])).run Try.prog w = .ok (.enter 124 #[.agg #[.int .i64 n]]) w := by kernel_rfl
 exact e2
theorem m_keysS {w : World} {b : Nat} {n : Int} {v : Value} (h : w.heap[b]? = some (.cells #[.int .i64 n, v] 87 (0, 0))) : (callMethod (ifP 79 b) "loop.example/s01136/impl.keys" #[]).run Try.prog w = .ok (.enter 124 #[.agg #[.int .i64 n]]) w := by
 have e := meth_keys (tp := 79) (ts := 87) (by kernel_rfl) Try.underlying87 rfl b w (run_load85 h)
 unfold ifP callMethod
 simp only [Sem.run_bind, run_program, Result.andThen_ok, e]
 have e2 : (callFunc 124 (#[Value.agg #[.int .i64 n]] ++ #[])).run Try.prog w = .ok (.enter 124 #[.agg #[.int .i64 n]]) w := by kernel_rfl
 exact e2

/-! ### zw_impl1: a text by hand -/
set_option maxHeartbeats 2000000 in
theorem keys_any (n : Int) (W : World) : Calls Try.prog 124 #[.agg #[.int .i64 n]] W fun e W' => e = .returned (.int .i64 n) ∧ Below W.heap.size W W' := by
 have hba : Below W.heap.size W (W.alloc (.cells #[.int .i64 n] 85)) := below_alloc (zZ _ _) _
 have K1 := blk_new W (.cells #[.int .i64 n] 85)
 have x0 : (W.alloc (.cells #[.int .i64 n] 85)).cell? ⟨W.heap.size, 0, none⟩ = some (.int .i64 n) := (blk_cell K1 0).trans rfl
 have HB := zA hba
 have hu := Try.underlying85
 clear hba K1
 go_enter Try.func124, Try.ntmps124
 go_wp2_with fail
 go_ret
 exact ⟨rfl, HB.out⟩
set_option maxHeartbeats 2000000 in
theorem newLeaf_any (A : Option Addr) (n c : Nat) (W : World) : Calls Try.prog 39 #[.slice A n c] W fun e W' => ∃ b, e = .returned (.pointer (some ⟨b, 0, none⟩)) ∧ W.heap.size ≤ b ∧ W'.heap[b]? = some (.cells #[.int .i64 (n : Int), .slice A n c] 93 (0, 0)) ∧ Below W.heap.size W W' := by
 have hu := Try.underlying85
 have hu2 := Try.underlying93
 go_enter Try.func39, Try.ntmps39
 go_wp2_with fail
 go_ret
 exact ⟨W.heap.size, rfl, zY _, blk_new _ _, below_alloc (zZ _ _) _⟩
set_option maxHeartbeats 2000000 in
theorem least0_any {W : World} {b : Nat} {A : Option Addr} {c : Nat} {t : S56} (hl : LeafAt W b A c t) (hC : Kd.C Kd.string W A t.f1.length t.f1) : Calls Try.prog 125 #[.pointer (some ⟨b, 0, none⟩)] W fun e W' => e = .returned (.string (headK 0 t)) ∧ W' = W := by
 have x1 : W.cell? ⟨b, 1, none⟩ = some (.slice A t.f1.length c) := (blk_cell hl.2.2.1 1).trans rfl
 have hu2 := Try.underlying93
 have HC := zA hC
 clear hl hC
 by_cases c0 : t.f1.length = 0
 ·have hk : headK 0 t = ByteArray.empty := by
   unfold headK keysD
   rw [List.length_eq_zero_iff.1 c0]
   rfl
  rw [hk]
  have cb : ((t.f1.length : Int) == 0) = true := by simp [c0]
  have cb2 : (t.f1.length == 0) = true := by simp [c0]
  go_enter Try.func125, Try.ntmps125
  go_wp2_with fail
  go_ret
  exact ⟨rfl, rfl⟩
 ·have cb : ((t.f1.length : Int) == 0) = false := by rw [beq_eq_false_iff_ne]; omega
  have cb2 : (t.f1.length == 0) = false := by rw [beq_eq_false_iff_ne]; exact c0
  obtain ⟨ad, rfl, hx⟩ := Kd.at_string HC.out 0 (by decide) (by omega)
  simp only [Int.toNat_zero, Addr.add_zero'] at hx
  have hk : headK 0 t = rdOf ByteArray.empty t.f1 0 := rfl
  rw [hk]
  have p0 : (0 < t.f1.length) = True := eq_true (by omega)
  have p1 : ((0 : Int) < (t.f1.length : Int)) = True := eq_true (by omega)
  go_enter Try.func125, Try.ntmps125
  go_wp2_with fail
  go_ret
  exact ⟨rfl, rfl⟩
/-- A row of nodes, an element. -/
theorem at_N {d : Nat} {W : World} {A : Option Addr} {n : Nat} {xs : List S56} {ok : Nat → Prop} (h : Kd.F (kN d) W ok A n xs) (i : Nat) (h1 : i < n) : ∃ ad v, A = some ad ∧ W.cell? (ad.add i) = some v ∧ Kd.FK (kN d) W ok (rd_T56 xs (i : Int)) [v] ∧ ok (ad.add i).block := by
 obtain ⟨ad, c, e, hl, hK, hc, hb⟩ := Kd.F_get h z56 (i : Int) (by omega) (by omega)
 rw [kN_sz] at hl hc hb
 obtain ⟨v, rfl⟩ := List.length_eq_one_iff.1 hl
 refine ⟨ad, v, e, ?_, hK, by rw [add_block]; exact hb (by decide)⟩
 have := hc 0 v rfl
 simpa using this
set_option maxHeartbeats 2000000 in
theorem leastS_any : ∀ (d : Nat) (r : Bool) (W : World) (b : Nat) (A : Option Addr) (c : Nat) (t : S56) (ok : Nat → Prop) (_ : InnerAt d W b A c t) (_ : Kd.F (kN d) W ok A t.f2.length t.f2) (_ : goodD (d + 1) r t), Calls Try.prog 126 #[.pointer (some ⟨b, 0, none⟩)] W fun e W' => e = .returned (.string (headK (d + 1) t)) ∧ W' = W := by
 intro d
 induction d with
 | zero =>
   intro r W b A c t ok hl hF hg
   have x1 : W.cell? ⟨b, 1, none⟩ = some (.slice A t.f2.length c) := (blk_cell hl.2.2.1 1).trans rfl
   obtain ⟨ad, v, rfl, hx, hK, _⟩ := at_N hF 0 (by have := hg.2.2.1; omega)
   rw [Addr.add_zero'] at hx
   obtain ⟨kid, hkid⟩ : ∃ kid, kid = rd_T56 t.f2 ((0 : Nat) : Int) := ⟨_, rfl⟩
   rw [← hkid] at hK
   have hh : headK 1 t = headK 0 kid := by
    rcases ht : t.f2 with _ | ⟨k, l⟩
    ·have := hg.2.2.1; rw [ht] at this; simp at this
    ·have e : kid = k := by rw [hkid, ht]; rfl
     rw [e]
     exact headK_succ ht (hg.2.2.2.2 k (by rw [ht]; simp))
   rw [hh]
   have p0 : (0 < t.f2.length) = True := eq_true (by have := hg.2.2.1; omega)
   obtain ⟨kb, kA, kc, ke, kl, _, kF⟩ := kN_open0 hK
   have hv : v = ifP 58 kb := by simpa using ke
   subst hv
   have HL := zA kl
   have HF := zA (Kd.F_now kF)
   have hu2 := Try.underlying87
   clear hl hF hg hK hkid hh ke kl kF
   go_enter Try.func126, Try.ntmps126
   go_wp2_with ((with_reducible refine gate_dst (N := 9) rfl ?_); refine goesI_ (some 9) rfl rfl 125 #[.pointer (some ⟨kb, 0, none⟩)] (run_invoke rfl rfl (m_least0 _ _)) ?_; refine (least0_any HL.out HF.out).mono ?_; rintro e W1 ⟨rfl, rfl⟩; refine ⟨_, rfl, ?_⟩)
   go_ret
   exact ⟨rfl, rfl⟩
 | succ d ih =>
   intro r W b A c t ok hl hF hg
   have x1 : W.cell? ⟨b, 1, none⟩ = some (.slice A t.f2.length c) := (blk_cell hl.2.2.1 1).trans rfl
   obtain ⟨ad, v, rfl, hx, hK, _⟩ := at_N hF 0 (by have := hg.2.2.1; omega)
   rw [Addr.add_zero'] at hx
   obtain ⟨kid, hkid⟩ : ∃ kid, kid = rd_T56 t.f2 ((0 : Nat) : Int) := ⟨_, rfl⟩
   rw [← hkid] at hK
   have hh : headK (d + 2) t = headK (d + 1) kid ∧ goodD (d + 1) false kid := by
    rcases ht : t.f2 with _ | ⟨k, l⟩
    ·have := hg.2.2.1; rw [ht] at this; simp at this
    ·have e : kid = k := by rw [hkid, ht]; rfl
     rw [e]
     have hgk := hg.2.2.2.2 k (by rw [ht]; simp)
     exact ⟨headK_succ ht hgk, hgk⟩
   rw [hh.1]
   have HG := zA hh.2
   have p0 : (0 < t.f2.length) = True := eq_true (by have := hg.2.2.1; omega)
   obtain ⟨kb, kA, kc, ke, kl, _, kF⟩ := kN_openS hK
   have hv : v = ifP 79 kb := by simpa using ke
   subst hv
   have HL := zA kl
   have HF := zA kF
   have IH := zA ih
   have hu2 := Try.underlying87
   clear hl hF hg hK hkid hh ke kl kF ih
   go_enter Try.func126, Try.ntmps126
   go_wp2_with ((with_reducible refine gate_dst (N := 9) rfl ?_); refine goesI_ (some 9) rfl rfl 126 #[.pointer (some ⟨kb, 0, none⟩)] (run_invoke rfl rfl (m_leastS _ _)) ?_; refine (IH.out false W kb kA kc kid _ HL.out HF.out HG.out).mono ?_; rintro e W1 ⟨rfl, rfl⟩; refine ⟨_, rfl, ?_⟩)
   go_ret
   exact ⟨rfl, rfl⟩
/-- least() of a node through the interface. -/
theorem node_least {d tp b : Nat} {r : Bool} {W : World} {ok : Nat → Prop} {t : S56} (h : Kd.FK (kN d) W ok t [ifP tp b]) (hg : goodD d r t) : ∃ f, (∀ w, (callMethod (.iface tp (.pointer (some ⟨b, 0, none⟩))) "loop.example/s01136/impl.least" #[]).run Try.prog w = .ok (.enter f #[.pointer (some ⟨b, 0, none⟩)]) w) ∧ Calls Try.prog f #[.pointer (some ⟨b, 0, none⟩)] W fun e W' => e = .returned (.string (headK d t)) ∧ W' = W := by
 cases d with
 | zero =>
   obtain ⟨b', A, c, e, hl, hb, hF⟩ := kN_open0 h
   unfold ifP at e
   simp only [List.cons.injEq, Value.iface.injEq, Value.pointer.injEq, Option.some.injEq, Addr.mk.injEq, and_true] at e
   obtain ⟨rfl, rfl⟩ := e
   exact ⟨_, m_least0 _, least0_any hl (Kd.F_now hF)⟩
 | succ d =>
   obtain ⟨b', A, c, e, hl, hb, hF⟩ := kN_openS h
   unfold ifP at e
   simp only [List.cons.injEq, Value.iface.injEq, Value.pointer.injEq, Option.some.injEq, Addr.mk.injEq, and_true] at e
   obtain ⟨rfl, rfl⟩ := e
   exact ⟨_, m_leastS _, leastS_any d r W _ A c t ok hl hF hg⟩

/-! ### zw_impl2: a text by hand -/
-- uses cell_stay keysD_le FS
def nin.gT5 : Bool × List (List Nat × List Nat) := (true, [([], []), ([0], [0]), ([1], [1]), ([2], [2]), ([3], [3]), ([], []), ([5], [5]), ([4, 6], [4, 6]), ([0, 0, 1, 2, 3, 4, 5, 6, 7], [0]), ([8, 0, 1, 2, 3, 4, 5, 6, 7], [8]), ([9, 0, 1, 2, 3, 4, 5, 6, 7], [9]), ([10, 7, 6, 0, 1, 2, 3, 4, 5, 6, 7], [7, 10])])
def nin.gB5 : List Nat := [0, 1, 3, 7, 15, 0, 32, 127, 255, 511, 1023, 2047]
theorem nin.gtab5 : rtab .any (opsOf Try.f58 5) = nin.gT5 := by kernel_rfl
theorem nin.gbits5 : waitsOk nin.gT5.2 nin.gB5 = true := by kernel_rfl
theorem sum_le {d : Nat} : ∀ (ks : List S56), (∀ k ∈ ks, goodD d false k) → ((ks.map (keysD d)).flatten).length ≤ ks.length * 4 ^ (d + 1)
 | [], _ => by simp
 | k :: ks, h => by
   have h1 := keysD_le (h k List.mem_cons_self)
   have h2 := sum_le ks (fun x hx => h x (List.mem_cons_of_mem _ hx))
   simp only [yH, List.flatten_cons, List.length_append, List.length_cons, Nat.add_mul, Nat.one_mul] at h2 ⊢
   omega
theorem sum_take {d j : Nat} {ks : List S56} (h : j < ks.length) : (((ks.take (j + 1)).map (keysD d)).flatten).length = (((ks.take j).map (keysD d)).flatten).length + (keysD d ks[j]).length := by
 rw [List.take_add_one, List.getElem?_eq_getElem h, List.map_append, List.flatten_append]
 simp
/-- keys() of a node through the interface. -/
theorem node_keys {d : Nat} {W : World} {ok : Nat → Prop} {t : S56} {v : Value} (h : Kd.FK (kN d) W ok t [v]) : ∃ tp b, v = ifP tp b ∧ ok b ∧ (callMethod (ifP tp b) "loop.example/s01136/impl.keys" #[]).run Try.prog W = .ok (.enter 124 #[.agg #[.int .i64 ((keysD d t).length : Nat)]]) W := by
 cases d with
 | zero =>
   obtain ⟨b, A, c, e, hl, hb, _⟩ := kN_open0 h
   exact ⟨_, b, by simpa using e, hb, m_keys0 hl.2.2.1⟩
 | succ d =>
   obtain ⟨b, A, c, e, hl, hb, _⟩ := kN_openS h
   exact ⟨_, b, by simpa using e, hb, m_keysS hl.2.2.1⟩
set_option maxRecDepth 100000 in
theorem node_keys2 {d tp b : Nat} {W : World} {ok : Nat → Prop} {t : S56} (h : Kd.FK (kN d) W ok t [ifP tp b]) : (callMethod (.iface tp (.pointer (some ⟨b, 0, none⟩))) "loop.example/s01136/impl.keys" #[]).run Try.prog W = .ok (.enter 124 #[.agg #[.int .i64 ((keysD d t).length : Nat)]]) W := by
 obtain ⟨tp', b', e, _, hm⟩ := node_keys h
 unfold ifP at e
 injection e with e1 e2
 injection e2 with e2
 injection e2 with e2
 injection e2 with e2
 subst e1 e2
 exact hm
set_option maxHeartbeats 8000000 in
set_option maxRecDepth 100000 in
theorem newInner_any {d : Nat} {W : World} {A : Option Addr} {c : Nat} {ks : List S56} {ok : Nat → Prop} (hd : d ≤ 29) (h4 : ks.length ≤ 5) (hg : ∀ k ∈ ks, goodD d false k) (hF : Kd.F (kN d) W ok A ks.length ks) :
  Calls Try.prog 58 #[.slice A ks.length c] W fun e W' => ∃ b, e = .returned (.pointer (some ⟨b, 0, none⟩)) ∧ W.heap.size ≤ b ∧ W'.heap[b]? = some (.cells #[.int .i64 ((((ks.map (keysD d)).flatten).length : Nat) : Int), .slice A ks.length c] 87 (0, 0)) ∧ Below W.heap.size W W' := by
 have hu1 := Try.underlying85
 have hu2 := Try.underlying87
 have hba : Below W.heap.size W (W.alloc (.cells #[.int .i64 0, .slice A ks.length c] 87)) := below_alloc (zZ _ _) _
 have KB := zA (blk_new W (.cells #[.int .i64 0, .slice A ks.length c] 87))
 have HB := zA hba
 have HF := zA (Kd.F_mono (ok' := fun k => k < W.heap.size) (yF (Kd.F_bound hF) hba) (fun k hk => hk.2))
 have HG := zA hg
 have HD := zA (And.intro hd h4)
 clear hba hF hg hd h4
 go_enter Try.func58, Try.ntmps58
 go_upto_region 2 with (fail)
 generalize (W.alloc (.cells #[.int .i64 0, .slice A ks.length c] 87)) = W0 at *
 obtain ⟨b, hb⟩ : ∃ b, b = W.heap.size := ⟨_, rfl⟩
 rw [← hb] at KB HB HF ⊢
 have HN := zA hb
 clear hb
 go_wp2_with fail
 go_loopg [5, 11] ks.length (fun kq v5 v11 w' => ∃ j : Nat, v11 = .int .i64 (j : Int) ∧ Aside0 (j ≤ ks.length ∧ ks.length ≤ kq + j) ∧ Aside0 (w'.heap[b]? = some (.cells #[.int .i64 (((((ks.take j).map (keysD d)).flatten).length : Nat) : Int), .slice A ks.length c] 87 (0, 0))) ∧ Aside0 (Below b W w') ∧ Aside0 (Kd.F (kN d) w' (fun k => k < b) A ks.length ks))
 case atStart => exact ⟨0, rfl, ⟨by omega, by omega⟩, KB, HB, HF⟩
 case round =>
  clear KB HB HF
  obtain ⟨j, rfl, HI, KB, HB, HF⟩ := hrel
  by_cases cj : j < ks.length
  case neg =>
   have cjb : decide (j < ks.length) = false := zK cj
   have hj : j = ks.length := by have := HI.out; omega
   have KB2 := zA (show wr.heap[b]? = some (.cells #[.int .i64 ((((ks.map (keysD d)).flatten).length : Nat) : Int), .slice A ks.length c] 87 (0, 0)) by have := KB.out; rwa [hj, List.take_length] at this)
   clear hj
   go_wp2_with fail
   go_ret
   rw [← HN.out]
   exact ⟨b, rfl, zY _, KB2.out, HB.out⟩
  case pos =>
   have cjb : decide (j < ks.length) = true := zJ cj
   obtain ⟨mm, rfl⟩ : ∃ mm, gk = mm + 1 := ⟨gk - 1, by have := HI.out; omega⟩
   obtain ⟨ad, v, rfl, hx, hK, _⟩ := at_N HF.out j cj
   rw [rd56_at _ _ cj] at hK
   obtain ⟨tp, kb, rfl, hkb, hm⟩ := node_keys hK
   have HK := zA hK
   obtain ⟨kl, hkl⟩ : ∃ kl, kl = (keysD d (ks[j]'cj)).length := ⟨_, rfl⟩
   obtain ⟨s, hs⟩ : ∃ s, s = (((ks.take j).map (keysD d)).flatten).length := ⟨_, rfl⟩
   have HS := zA (show (((ks.take (j + 1)).map (keysD d)).flatten).length = s + kl by rw [sum_take cj, ← hkl, ← hs])
   have HSL := zA (show s + kl ≤ 5764607523034234880 by
    have h1 := sum_le (ks.take (j + 1)) (fun k hk => HG.out k (List.mem_of_mem_take hk))
    rw [HS.out, zW] at h1
    have h2 : min (j + 1) ks.length * 4 ^ (d + 1) ≤ 5 * 4 ^ (d + 1) := Nat.mul_le_mul_right _ (by have := HD.out.2; omega)
    have h3 : 4 ^ (d + 1) ≤ 4 ^ 30 := pow4 _ _ (by have := HD.out.1; omega)
    omega)
   have hw : wrap64 ((s : Int) + (kl : Int)) = ((s + kl : Nat) : Int) := by have := HSL.out; unfold wrap64; omega
   have HW := zA hw
   have HW1 := zA (w64s j (by have := HD.out.2; omega))
   rw [← hkl] at hm
   rw [← hs] at KB
   have p5 : (0 ≤ (j : Int)) = True := eq_true (by omega)
   have q5 : ((j : Int) < (ks.length : Int)) = True := eq_true (by omega)
   have q6 : (j < ks.length) = True := eq_true cj
   have HM := zA hm
   have HKB := zA hkb
   have HKL := zA hkl
   clear hs hkl hm hw hK hkb HM
   go_upto_region 5 with (fail)
   refine start_ (n := 12) (S := fun w' => w'.heap[b]? = some (.cells #[.int .i64 (s : Int), .slice (some ad) ks.length c] 87 (0, 0))) (ds := [11]) #[false, false, false, false, false, false, false, false, false, false, false, false] (by kernel_rfl) rfl rfl KB.out (fun hHeld => ?_); refine with_tabW nin.gtab5 nin.gbits5 (fun HT_ HW_ => ?_)
   have hbd : Below wr.heap.size wr wr.drew := below_drew (zZ _ _)
   have hlt := blk_lt KB.out
   replace KB := zA (zH KB.out hbd)
   replace HB := zA (below_lo HB.out hbd (by omega))
   replace HF := zA (yF HF.out hbd)
   replace HK := zA (yE HK.out hbd)
   clear hbd hlt
   generalize wr.drew = W9 at *
   refine pure_ (i := 0) (N := some 15) (v := ?_) (a' := ?_) #[true, false, false, false, false, false, false, false, false, false, false, false] rfl rfl (yM HT_.out (by kernel_rfl)) (fun _ _ _ h => h) (Or.inl ⟨by rfl, ?_⟩) ?_ ?_
   rotate_left
   ·intro w'
    go_simp
    with_reducible rfl
   rotate_left
   ·simp only [Act.put, zN, zO, zP, i64_w, i32_w]
    rfl
   refine pure_ (i := 1) (N := some 16) (v := ?_) (a' := ?_) #[true, true, false, false, false, false, false, false, false, false, false, false] rfl rfl (yM HT_.out (by kernel_rfl)) (fun _ _ _ h => h) (Or.inl ⟨by rfl, ?_⟩) ?_ ?_
   rotate_left
   ·intro w'
    go_simp
    with_reducible rfl
   rotate_left
   ·simp only [Act.put, zN, zO, zP, i64_w, i32_w]
    rfl
   refine pure_ (i := 2) (N := some 17) (v := ?_) (a' := ?_) #[true, true, true, false, false, false, false, false, false, false, false, false] rfl rfl (yM HT_.out (by kernel_rfl)) (fun _ _ _ h => h) (Or.inl ⟨by rfl, ?_⟩) ?_ ?_
   rotate_left
   ·intro w'
    go_simp
    with_reducible rfl
   rotate_left
   ·simp only [Act.put, zN, zO, zP, i64_w, i32_w]
    rfl
   refine pure_ (i := 3) (N := some 18) (v := ?_) (a' := ?_) #[true, true, true, true, false, false, false, false, false, false, false, false] rfl rfl (yM HT_.out (by kernel_rfl)) (fun _ _ _ h => h) (Or.inl ⟨by rfl, ?_⟩) ?_ ?_
   rotate_left
   ·intro w'
    go_simp
    with_reducible rfl
   rotate_left
   ·simp only [Act.put, zN, zO, zP, i64_w, i32_w]
    rfl
   refine take_ (i := 4) (N := some 19) (v := ?_) (a' := ?_) #[true, true, true, true, true, false, false, false, false, false, false, false] rfl rfl (yL HT_.out HW_.out (by kernel_rfl)) (fun _ _ _ h => h) (Or.inl ⟨by rfl, ?_⟩) hHeld ?_ ?_
   rotate_left
   ·rintro w' s0
    have x0 : w'.cell? ⟨b, 0, none⟩ = some (.int .i64 (s : Int)) := (blk_cell s0 0).trans rfl
    go_simp
    with_reducible rfl
   rotate_left
   ·simp only [Act.put, zN, zO, zP, i64_w, i32_w]
    rfl
   refine pure_ (i := 5) (N := some 20) (v := ?_) (a' := ?_) #[true, true, true, true, true, true, false, false, false, false, false, false] rfl rfl (yM HT_.out (by kernel_rfl)) (fun _ _ _ h => h) (Or.inl ⟨by rfl, ?_⟩) ?_ ?_
   rotate_left
   ·intro w'
    go_simp
    with_reducible rfl
   rotate_left
   ·simp only [Act.put, zN, zO, zP, i64_w, i32_w]
    rfl
   refine one_ (i := 6) (N := some 21) #[true, true, true, true, true, true, true, false, false, false, false, false] rfl rfl (yN HT_.out (by kernel_rfl)) (by decide) (fun K hK => ?_)
   have hm := node_keys2 HK.out
   rw [← HKL.out] at hm
   refine call_ 124 #[.agg #[.int .i64 (kl : Int)]] (by rfl) rfl (run_invoke rfl rfl hm) ?_
   refine (keys_any _ _).mono ?_
   rintro e We ⟨rfl, hb⟩
   refine ⟨_, rfl, ?_⟩
   have hlt := blk_lt KB.out
   replace KB := zA (zH KB.out hb)
   replace HB := zA (below_lo HB.out hb (by omega))
   replace HF := zA (yF HF.out hb)
   replace HK := zA (yE HK.out hb)
   clear hb hm hlt
   refine hK.out _ _ KB.out (fun hHeld => ?_)
   clear hK K
   refine norm_ (a' := ?_) ?_ ?_
   rotate_left
   ·show Act.put _ (some 21) _ = _
    simp only [Act.put, zN, zO, zP, i64_w, i32_w]
    rfl
   refine pure_ (i := 7) (N := some 22) (v := ?_) (a' := ?_) #[true, true, true, true, true, true, true, true, false, false, false, false] rfl rfl (yM HT_.out (by kernel_rfl)) (fun _ _ _ h => h) (Or.inl ⟨by rfl, ?_⟩) ?_ ?_
   rotate_left
   ·intro w'
    go_simp
    with_reducible rfl
   rotate_left
   ·simp only [Act.put, zN, zO, zP, i64_w, i32_w]
    rfl
   refine pure_ (i := 8) (N := some 23) (v := ?_) (a' := ?_) #[true, true, true, true, true, true, true, true, true, false, false, false] rfl rfl (yM HT_.out (by kernel_rfl)) (fun _ _ _ h => h) (Or.inl ⟨by rfl, ?_⟩) ?_ ?_
   rotate_left
   ·intro w'
    go_simp
    with_reducible rfl
   rotate_left
   ·simp only [Act.put, zN, zO, zP, i64_w, i32_w]
    rfl
   refine pure_ (i := 9) (N := some 24) (v := ?_) (a' := ?_) #[true, true, true, true, true, true, true, true, true, true, false, false] rfl rfl (yM HT_.out (by kernel_rfl)) (fun _ _ _ h => h) (Or.inl ⟨by rfl, ?_⟩) ?_ ?_
   rotate_left
   ·intro w'
    go_simp
    with_reducible rfl
   rotate_left
   ·simp only [Act.put, zN, zO, zP, i64_w, i32_w]
    rfl
   refine pure_ (i := 10) (N := some 25) (v := ?_) (a' := ?_) #[true, true, true, true, true, true, true, true, true, true, true, false] rfl rfl (yM HT_.out (by kernel_rfl)) (fun _ _ _ h => h) (Or.inl ⟨by rfl, ?_⟩) ?_ ?_
   rotate_left
   ·intro w'
    go_simp
    with_reducible rfl
   rotate_left
   ·simp only [Act.put, zN, zO, zP, i64_w, i32_w]
    rfl
   refine last_ (i := 11) (N := none) #[true, true, true, true, true, true, true, true, true, true, true, true] rfl rfl (yN HT_.out (by kernel_rfl)) (by decide) (fun K hK => ?_)
   have x0 : World.cell? _ ⟨b, 0, none⟩ = some (.int .i64 (s : Int)) := (blk_cell KB.out 0).trans rfl
   have y0 := zG KB.out 0
   have yl := blk_lt KB.out
   refine skip_ (w1 := ?_) (by rfl) rfl ?_ ?_
   rotate_left
   ·go_simp
    rfl
   refine hK.out _ _ ?_
   clear hK K
   refine done_ (done_of HT_.out (by kernel_rfl)) ?_
   go_wp2_with fail
   try rw [i64_w]
   try rw [HW.out]
   go_roundg mm
   case measure => omega
   case rel => exact ⟨j + 1, by rw [HW1.out], ⟨by have := HI.out; omega⟩, ⟨by rw [HS.out]; first | exact blk_put KB.out 0 _ rfl | (rw [← HW.out]; exact blk_put KB.out 0 _ rfl)⟩, ⟨HB.out.setCell (zY _) _⟩, ⟨Kd.F_far (p := ⟨b, 0, none⟩) HF.out (fun k hk => Nat.ne_of_lt hk) _⟩⟩

/-! ### zx_node: a text by hand -/
-- uses cell_stay keysD_le FS okT
def nod.gT19 : Bool × List (List Nat × List Nat) := (true, [([], []), ([0], [0]), ([1], [1]), ([2], [2]), ([3, 2], [2, 3]), ([4, 2, 2], [2, 4]), ([5], [5]), ([5], [5]), ([6, 7, 5], [5, 6, 7]), ([8, 5, 5], [5, 8]), ([9], [9]), ([10, 9, 9], [9, 10]), ([9], [9]), ([12, 9], [9, 12]), ([9], [9]), ([14, 9], [9, 14]), ([13, 15, 9], [9, 13, 15]), ([16, 9], [9, 16]), ([11, 17, 9], [9, 11, 17]), ([9, 18, 5], [5, 9, 18]), ([5, 19, 2], [2, 5, 19]), ([2, 20], [2, 20])])
def nod.gB19 : List Nat := [0, 1, 3, 7, 15, 31, 63, 63, 255, 511, 1023, 2047, 1023, 5119, 1023, 17407, 62463, 127999, 262143, 524287, 1048575, 2097151]
theorem nod.gtab19 : rtab .any (opsOf Try.f70 19) = nod.gT19 := by kernel_rfl
theorem nod.gbits19 : waitsOk nod.gT19.2 nod.gB19 = true := by kernel_rfl
structure NS (g : Nat) (W W' : World) : Prop where
 b : Below g W W'
 k : ∀ k, k < W.heap.size → k ≠ g → W'.heap[k]? = W.heap[k]?
theorem NS.refl (g : Nat) (W : World) : NS g W W := ⟨zZ _ _, fun _ _ _ => rfl⟩
theorem NS.trans {g : Nat} {W W1 W2 : World} (h : NS g W W1) (h2 : NS g W1 W2) : NS g W W2 := ⟨below_same h.b h2.b, fun k hk hg => (h2.k k (yJ hk h.b.size) hg).trans (h.k k hk hg)⟩
theorem NS.of_below {g : Nat} {W W1 : World} (h : Below W.heap.size W W1) (hg : g ≤ W.heap.size) : NS g W W1 := ⟨below_less h hg, fun k hk _ => h.block k hk⟩
theorem NS.below {g : Nat} {W W1 W2 : World} (h : NS g W W1) (h2 : Below W1.heap.size W1 W2) (hg : g ≤ W1.heap.size) : NS g W W2 := h.trans (NS.of_below h2 hg)
theorem NS.set {g : Nat} {W W1 : World} (h : NS g W W1) (j : Nat) (v : Value) : NS g W (W1.setCell ⟨g, j, none⟩ v) := ⟨h.b.setCell (zY _) _, fun k hk hne => (Below.heap_setCell W1 ⟨g, j, none⟩ v k hne).trans (h.k k hk hne)⟩
def NodeEnd (n0 : Nat) (ns : List S90) (f : Nat) (root : Bool) (next : Int) (g : Nat) (A : Option Addr) (c : Nat) (W : World) (e : Ending) (W' : World) : Prop :=
 NS g W W' ∧ ((readD ns f root next = none ∧ e = .returned (.tuple #[.nilIface, .int .i64 0])) ∨
 (∃ x d after tp b, readD ns f root next = some (x, d, after) ∧ e = .returned (.tuple #[ifP tp b, .int .i64 ((d : Nat) : Int)]) ∧ Kd.FK (kN d) W' (fun k => k < n0 ∨ W.heap.size ≤ k) x [ifP tp b] ∧ W'.heap[g]? = some (.cells #[.slice A ns.length c, .int .i64 after] 104 (0, 0))))
theorem readD_none_end {ns : List S90} {f : Nat} {root : Bool} {next : Int} (h : ¬ next < (ns.length : Int)) : readD ns f root next = none := by
 cases f with
 | zero => rfl
 | succ f => unfold readD; rw [if_neg h]
theorem results_tt {P : Program} {fn : Func} {u v : Tmp} (h : fn.results = #[.tmp u, .tmp v]) (tmps : Array Value) (w : World) : (results fn tmps).run P w = .ok (.tuple #[tmps.getD u undef, tmps.getD v undef]) w := by
 simp [results, h, Sem.run_bind, Result.andThen]
theorem eql_nil (w : World) (tp : Nat) (v : Value) : (binOp .eql 67 (.iface tp v) .nilIface).run Try.prog w = .ok (.bool false) w := by
 have h : ∀ d : Nat, (Op.equalIn (d + 1) 67 (.iface tp v) .nilIface).run Try.prog w = .ok false w := fun d => by simp [Op.equalIn, run_underlying Try.underlying67]
 simp only [binOp]
 simp [Op.equal, Op.maxDepth, h 9999]
theorem eql_nn (w : World) : (binOp .eql 67 .nilIface .nilIface).run Try.prog w = .ok (.bool true) w := by
 have h : ∀ d : Nat, (Op.equalIn (d + 1) 67 .nilIface .nilIface).run Try.prog w = .ok true w := fun d => by simp [Op.equalIn, run_underlying Try.underlying67]
 simp only [binOp]
 simp [Op.equal, Op.maxDepth, h 9999]
theorem readD_depth {ns : List S90} : ∀ (f : Nat) (root : Bool) (a : Int) (x : S56) (d : Nat) (after : Int), readD ns f root a = some (x, d, after) → d < f
 | 0, _, _, _, _, _, h => by cases h
 | f + 1, root, a, x, d, after, h => by
   unfold readD at h
   have key : ∀ (ks : List Int) (seps : List ByteArray) (i lv : Nat) (nx : Int) (acc xs : List S56) (lv2 : Nat) (af : Int), readL (readD ns f false) seps ks i lv nx acc = some (xs, lv2, af) → lv2 = lv ∨ lv2 < f := by
    intro ks
    induction ks with
    | nil =>
      intro seps i lv nx acc xs lv2 af h
      simp only [readL, Option.some.injEq, Prod.mk.injEq] at h
      exact Or.inl h.2.1.symm
    | cons k ks ih =>
      intro seps i lv nx acc xs lv2 af h
      unfold readL at h
      split at h
      ·split at h
       ·cases h
       ·next hr =>
        split at h
        ·cases h
        ·rcases ih _ _ _ _ _ _ _ _ h with e | e
         ·rw [e]; exact Or.inr (readD_depth f false _ _ _ _ hr)
         ·exact Or.inr e
      ·cases h
   split at h
   ·split at h
    · split at h
      ·simp only [Option.some.injEq, Prod.mk.injEq] at h
       omega
      ·cases h
    · split at h
      ·next hc =>
       split at h
       ·cases h
       ·next hr =>
        split at h
        ·simp only [Option.some.injEq, Prod.mk.injEq] at h
         obtain ⟨_, rfl, _⟩ := h
         rcases hk : (rd_T90 ns a).f2 with _ | ⟨k, ks⟩
         ·rw [hk] at hc; simp at hc
         ·rw [hk] at hr
          unfold readL at hr
          split at hr
          ·split at hr
           ·cases hr
           ·next hr2 =>
            split at hr
            ·cases hr
            ·rcases key _ _ _ _ _ _ _ _ _ hr with e | e
             ·have := readD_depth f false _ _ _ _ hr2
              omega
             ·omega
          ·cases hr
        ·cases h
      ·cases h
   ·cases h
theorem readL_cons (rec : Int → Option (S56 × Nat × Int)) (seps : List ByteArray) (k : Int) (ks : List Int) (i lv : Nat) (nx : Int) (acc : List S56) : readL rec seps (k :: ks) i lv nx acc = if k = nx then (match rec nx with
 | none => none
 | some (x, below, after) => if 0 < i ∧ (below ≠ lv ∨ headK below x ≠ seps.getD (i - 1) ByteArray.empty) then none else readL rec seps ks (i + 1) below after (acc ++ [x])) else none := rfl
set_option maxHeartbeats 32000000 in
set_option maxRecDepth 100000 in
theorem node_any (n0 : Nat) (ns : List S90) (hl : ns.length ≤ 1048576) : ∀ (f : Nat) (dep : Int) (_ : dep + f = 31) (_ : 0 ≤ dep) (root : Bool) (_ : root = decide (dep = 0)) (next : Int) (_ : 0 ≤ next) (A : Option Addr) (c g : Nat) (W : World) (_ : Kd.F k90 W (fun k => k < n0) A ns.length ns) (_ : n0 ≤ g) (_ : W.heap[g]? = some (.cells #[.slice A ns.length c, .int .i64 next] 104 (0, 0))),
   Calls Try.prog 70 #[.pointer (some ⟨g, 0, none⟩), .int .i64 dep] W fun e W' => NodeEnd n0 ns f root next g A c W e W' := by
 intro f
 induction f with
 | zero =>
   intro dep hd h0 root hroot next hn A c g W hF hg hG
   have x0 : W.cell? ⟨g, 0, none⟩ = some (.slice A ns.length c) := (blk_cell hG 0).trans rfl
   have x1 : W.cell? ⟨g, 1, none⟩ = some (.int .i64 next) := (blk_cell hG 1).trans rfl
   have hgl := blk_lt hG
   have g2 : decide (30 < dep) = true := zJ (by omega)
   have HR := zA (show readD ns 0 root next = none from rfl)
   clear hF hG hroot
   by_cases c1 : (ns.length : Int) ≤ next
   ·have g1 : decide ((ns.length : Int) ≤ next) = true := zJ c1
    go_enter Try.func70, Try.ntmps70
    go_wp2_with fail
    go_quiet (fail)
    go_wp2_with fail
    refine bodyPost_ret (results_tt rfl _ _) rfl ?_
    exact ⟨NS.of_below (zB (zZ _ _) _) (by omega), Or.inl ⟨HR.out, rfl⟩⟩
   ·have g1 : decide ((ns.length : Int) ≤ next) = false := zK c1
    go_enter Try.func70, Try.ntmps70
    go_wp2_with fail
    go_quiet (fail)
    go_wp2_with fail
    refine bodyPost_ret (results_tt rfl _ _) rfl ?_
    exact ⟨NS.of_below (zB (zZ _ _) _) (by omega), Or.inl ⟨HR.out, rfl⟩⟩
 | succ f ih =>
   intro dep hd h0 root hroot next hn A c g W hF hg hG
   have x0 : W.cell? ⟨g, 0, none⟩ = some (.slice A ns.length c) := (blk_cell hG 0).trans rfl
   have x1 : W.cell? ⟨g, 1, none⟩ = some (.int .i64 next) := (blk_cell hG 1).trans rfl
   have hgl := blk_lt hG
   have g2 : decide (30 < dep) = false := zK (by omega)
   by_cases c1 : next < (ns.length : Int)
   case neg =>
    have HR := zA (readD_none_end (f := f + 1) (root := root) c1)
    have g1 : decide ((ns.length : Int) ≤ next) = true := zJ (by omega)
    clear hF hG hroot ih
    go_enter Try.func70, Try.ntmps70
    go_wp2_with fail
    go_quiet (fail)
    go_wp2_with fail
    refine bodyPost_ret (results_tt rfl _ _) rfl ?_
    exact ⟨NS.of_below (zB (zZ _ _) _) (by omega), Or.inl ⟨HR.out, rfl⟩⟩
   case pos =>
   have g1 : decide ((ns.length : Int) ≤ next) = false := zK (by omega)
   obtain ⟨nd, hnd⟩ : ∃ nd, nd = rd_T90 ns next := ⟨_, rfl⟩
   obtain ⟨r, hr⟩ : ∃ r, r = readD ns (f + 1) root next := ⟨_, rfl⟩
   have hr2 := hr
   unfold readD at hr2
   rw [if_pos c1, ← hnd] at hr2
   have HRR := zA hr
   have HR := zA hr2
   have HF := zA hF
   have KG := zA hG
   have HP := zA (And.intro hd (And.intro h0 (And.intro hn (And.intro c1 hl))))
   have HRT := zA hroot
   have HN0 := zA hg
   have HND := zA hnd
   have IH := zA ih
   have HS0 := zA (NS.refl g W)
   clear hr hr2 ih hroot hG hF
   have hu90 := Try.underlying90
   have hu67 := Try.underlying67
   have hu104 := Try.underlying104
   obtain ⟨W0, hW0⟩ : ∃ W0, W0 = W := ⟨_, rfl⟩
   rw [← hW0] at HS0
   have HW0 := zA hW0
   clear hW0 hnd
   go_enter Try.func70, Try.ntmps70
   go_wp2_with fail
   go_quiet (fail)
   go_upto_region 3 with (fail)
   have hd1 : Below W.heap.size W (W.drewN nq) := zB (zZ _ _) _
   replace HF := zA (yF HF.out hd1)
   replace KG := zA (zH KG.out hd1)
   replace HS0 := zA (HS0.out.below (g := g) (by rw [HW0.out]; exact hd1) (by rw [HW0.out]; omega))
   clear x0 x1 hgl hd1
   generalize W.drewN nq = W1 at *
   have x0 : W1.cell? ⟨g, 0, none⟩ = some (.slice A ns.length c) := (blk_cell KG.out 0).trans rfl
   have x1 : W1.cell? ⟨g, 1, none⟩ = some (.int .i64 next) := (blk_cell KG.out 1).trans rfl
   obtain ⟨ad, A1, c1', A2, c2', rfl, q0, q1, q2, q3, l1, f1, l2, f2⟩ := at_F90 HF.out next hn c1
   rw [← HND.out] at q0 q1 q2 q3 l1 f1 l2 f2
   have FA := zA f1
   have FB := zA f2
   have HL := zA (And.intro l1 l2)
   have p5 : (0 ≤ next) = True := eq_true hn
   have q5 : (next < (ns.length : Int)) = True := eq_true c1
   have hgl := blk_lt KG.out
   have hql := zM W1 _ q0
   have HW1 := zA (show W0.heap.size ≤ W1.heap.size from HS0.out.b.size)
   clear f1 f2 l1 l2 g1 g2
   go_region
   go_upto_region 4 with (fail)
   have hd2 : Below W1.heap.size W1 (W1.alloc (.cells #[.bool nd.f0, .slice A1 nd.f1.length c1', .slice A2 nd.f2.length c2', .int .i64 nd.f3] 90)).drew := below_drew (below_alloc (zZ _ _) _)
   have KT := zA (zE (blk_new W1 (.cells #[.bool nd.f0, .slice A1 nd.f1.length c1', .slice A2 nd.f2.length c2', .int .i64 nd.f3] 90)))
   replace HF := zA (yF HF.out hd2)
   replace FA := zA (yF FA.out hd2)
   replace FB := zA (yF FB.out hd2)
   replace KG := zA (zH KG.out hd2)
   replace HS0 := zA (HS0.out.below hd2 (Nat.le_of_lt hgl))
   have HZ := zA (show (W1.alloc (.cells #[.bool nd.f0, .slice A1 nd.f1.length c1', .slice A2 nd.f2.length c2', .int .i64 nd.f3] 90)).drew.heap.size = W1.heap.size + 1 by simp [World.drew])
   generalize (W1.alloc (.cells #[.bool nd.f0, .slice A1 nd.f1.length c1', .slice A2 nd.f2.length c2', .int .i64 nd.f3] 90)).drew = W2 at *
   obtain ⟨mt, hmt⟩ : ∃ mt, mt = W1.heap.size := ⟨_, rfl⟩
   rw [← hmt] at KT HZ hgl ⊢
   have HGT := zA hgl
   have hw1 : W0.heap.size ≤ mt := by rw [hmt]; exact HW1.out
   have HWT := zA hw1
   clear hd2 x0 x1 q0 q1 q2 q3 p5 q5 hgl hql hmt hw1 HW1
   have x0 : W2.cell? ⟨g, 0, none⟩ = some (.slice (some ad) ns.length c) := (blk_cell KG.out 0).trans rfl
   have x1 : W2.cell? ⟨g, 1, none⟩ = some (.int .i64 next) := (blk_cell KG.out 1).trans rfl
   have y1 := zG KG.out 1
   have hw : wrap64 (next + 1) = next + 1 := by have := HP.out; unfold wrap64; omega
   go_upto_region 5 with (fail)
   try rw [hw]
   have hg2 : ∀ k, k < n0 → k ≠ (⟨g, 1, none⟩ : Addr).block := fun k hk => by have := HN0.out; show k ≠ g; omega
   replace KG := zA (show (W2.setCell ⟨g, 1, none⟩ (.int .i64 (next + 1))).heap[g]? = some (.cells #[.slice (some ad) ns.length c, .int .i64 (next + 1)] 104 (0, 0)) from blk_put KG.out 1 _ rfl)
   replace KT := zA (blk_far KT.out (p := ⟨g, 1, none⟩) (show mt ≠ g by have := HGT.out; omega) (.int .i64 (next + 1)))
   replace HF := zA (Kd.F_far HF.out hg2 (.int .i64 (next + 1)))
   replace FA := zA (Kd.F_far FA.out hg2 (.int .i64 (next + 1)))
   replace FB := zA (Kd.F_far FB.out hg2 (.int .i64 (next + 1)))
   replace HS0 := zA (HS0.out.set 1 (.int .i64 (next + 1)))
   replace HZ := zA (show (W2.setCell ⟨g, 1, none⟩ (.int .i64 (next + 1))).heap.size = mt + 1 by rw [sz_set]; exact HZ.out)
   generalize (W2.setCell ⟨g, 1, none⟩ (.int .i64 (next + 1))) = W3 at *
   clear x0 x1 y1 hw hg2
   obtain ⟨x0, x1, x2, x3, y0, y1, y2, y3⟩ := blk_cells4 KT.out
   rcases hf0 : nd.f0 with _ | _
   case true =>
    rw [hf0] at x0
    have hrr := HR.out
    rw [if_pos hf0, HRR.out] at hrr
    have HE := zA hrr
    have HF0 := zA hf0
    clear hrr hf0
    by_cases ca : nd.f2.length = 0
    case neg =>
     have ga : decide (0 < nd.f2.length) = true := zJ (by omega)
     have gab : decide ((0 : Int) < (nd.f2.length : Int)) = true := zJ (by omega)
     have hno : readD ns (f + 1) root next = none := by rw [HE.out, if_neg (fun h => ca h.1)]
     go_wp2_with fail
     refine bodyPost_ret (results_tt rfl _ _) rfl ?_
     exact ⟨by rw [← HW0.out]; exact HS0.out, Or.inl ⟨hno, rfl⟩⟩
    case pos =>
    have ga : decide (0 < nd.f2.length) = false := zK (by omega)
    have gab : decide ((0 : Int) < (nd.f2.length : Int)) = false := zK (by omega)
    by_cases cb : nd.f1.length ≤ 4
    case neg =>
     have gb : decide (4 < nd.f1.length) = true := zJ (by omega)
     have gbb : decide ((4 : Int) < (nd.f1.length : Int)) = true := zJ (by omega)
     have hno : readD ns (f + 1) root next = none := by rw [HE.out, if_neg (fun h => cb h.2.1)]
     go_wp2_with fail
     refine bodyPost_ret (results_tt rfl _ _) rfl ?_
     exact ⟨by rw [← HW0.out]; exact HS0.out, Or.inl ⟨hno, rfl⟩⟩
    case pos =>
    have gb : decide (4 < nd.f1.length) = false := zK (by omega)
    have gbb : decide ((4 : Int) < (nd.f1.length : Int)) = false := zK (by omega)
    by_cases cc : nd.f3 = (nd.f1.length : Nat)
    case neg =>
     have gc : (nd.f3 != (nd.f1.length : Int)) = true := by simpa using cc
     have hno : readD ns (f + 1) root next = none := by rw [HE.out, if_neg (fun h => cc h.2.2.1)]
     go_wp2_with fail
     refine bodyPost_ret (results_tt rfl _ _) rfl ?_
     exact ⟨by rw [← HW0.out]; exact HS0.out, Or.inl ⟨hno, rfl⟩⟩
    case pos =>
    have gc : (nd.f3 != (nd.f1.length : Int)) = false := by simpa using cc
    by_cases ce : 0 < dep ∧ nd.f1.length < 2
    case pos =>
     have ge : decide (0 < dep) = true := zJ ce.1
     have gf : decide (nd.f1.length < 2) = true := zJ (ce.2)
     have gfb : decide ((nd.f1.length : Int) < 2) = true := zJ (by have := ce.2; omega)
     have hno : readD ns (f + 1) root next = none := by rw [HE.out, if_neg (fun h => by
      rcases h.2.2.2 with h | h
      ·rw [HRT.out] at h
       have := zI h
       omega
      ·omega)]
     go_wp2_with fail
     refine bodyPost_ret (results_tt rfl _ _) rfl ?_
     exact ⟨by rw [← HW0.out]; exact HS0.out, Or.inl ⟨hno, rfl⟩⟩
    case neg =>
    by_cases cg : 0 < dep
    ·have ge : decide (0 < dep) = true := zJ cg
     have gf : decide (nd.f1.length < 2) = false := zK (fun h => ce ⟨cg, h⟩)
     have gfb : decide ((nd.f1.length : Int) < 2) = false := zK (fun h => ce ⟨cg, by omega⟩)
     have hyes : readD ns (f + 1) root next = some (⟨true, nd.f1, []⟩, 0, next + 1) := by rw [HE.out, if_pos ⟨ca, cb, cc, Or.inr (by rcases Nat.lt_or_ge nd.f1.length 2 with h | h; exact absurd ⟨cg, h⟩ ce; exact h)⟩]
     go_wp2_with fail
     refine (newLeaf_any _ _ _ _).mono ?_
     rintro e W4 ⟨b, rfl, hbs, hbk, hbb⟩
     go_wp2_with fail
     refine bodyPost_ret (results_tt rfl _ _) rfl ?_
     refine ⟨by rw [← HW0.out]; exact HS0.out.below hbb (by have := HZ.out; have := HGT.out; omega), Or.inr ⟨⟨true, nd.f1, []⟩, 0, next + 1, 58, b, hyes, rfl, ?_, zH KG.out hbb⟩⟩
     exact kN_mk0 (A := A1) (c := c1') ⟨rfl, rfl, hbk, HL.out.1⟩ (Or.inr (by rw [← HW0.out]; have := HWT.out; have := HZ.out; omega)) (Kd.F_mono (yF FA.out hbb) (fun k hk => Or.inl hk))
    ·have ge : decide (0 < dep) = false := zK cg
     have hyes : readD ns (f + 1) root next = some (⟨true, nd.f1, []⟩, 0, next + 1) := by rw [HE.out, if_pos ⟨ca, cb, cc, Or.inl (by rw [HRT.out]; exact zJ (by have := HP.out; omega))⟩]
     go_wp2_with fail
     refine (newLeaf_any _ _ _ _).mono ?_
     rintro e W4 ⟨b, rfl, hbs, hbk, hbb⟩
     go_wp2_with fail
     refine bodyPost_ret (results_tt rfl _ _) rfl ?_
     refine ⟨by rw [← HW0.out]; exact HS0.out.below hbb (by have := HZ.out; have := HGT.out; omega), Or.inr ⟨⟨true, nd.f1, []⟩, 0, next + 1, 58, b, hyes, rfl, ?_, zH KG.out hbb⟩⟩
     exact kN_mk0 (A := A1) (c := c1') ⟨rfl, rfl, hbk, HL.out.1⟩ (Or.inr (by rw [← HW0.out]; have := HWT.out; have := HZ.out; omega)) (Kd.F_mono (yF FA.out hbb) (fun k hk => Or.inl hk))
   case false =>
    rw [hf0] at x0
    have hrr := HR.out
    rw [if_neg (by rw [hf0]; decide), HRR.out] at hrr
    have HE := zA hrr
    have HF0 := zA hf0
    clear hrr hf0
    by_cases ca : 2 ≤ nd.f2.length
    case neg =>
     have ga : decide (nd.f2.length < 2) = true := zJ (by omega)
     have gab : decide ((nd.f2.length : Int) < 2) = true := zJ (by omega)
     have hno : readD ns (f + 1) root next = none := by rw [HE.out, if_neg (fun h => ca h.1)]
     go_wp2_with fail
     refine bodyPost_ret (results_tt rfl _ _) rfl ?_
     exact ⟨by rw [← HW0.out]; exact HS0.out, Or.inl ⟨hno, rfl⟩⟩
    case pos =>
    have ga : decide (nd.f2.length < 2) = false := zK (by omega)
    have gab : decide ((nd.f2.length : Int) < 2) = false := zK (by omega)
    by_cases cb : nd.f2.length ≤ 4
    case neg =>
     have gb : decide (4 < nd.f2.length) = true := zJ (by omega)
     have gbb : decide ((4 : Int) < (nd.f2.length : Int)) = true := zJ (by omega)
     have hno : readD ns (f + 1) root next = none := by rw [HE.out, if_neg (fun h => cb h.2.1)]
     go_wp2_with fail
     refine bodyPost_ret (results_tt rfl _ _) rfl ?_
     exact ⟨by rw [← HW0.out]; exact HS0.out, Or.inl ⟨hno, rfl⟩⟩
    case pos =>
    have gb : decide (4 < nd.f2.length) = false := zK (by omega)
    have gbb : decide ((4 : Int) < (nd.f2.length : Int)) = false := zK (by omega)
    have hw : wrap64 ((nd.f2.length : Int) - 1) = (nd.f2.length : Int) - 1 := by unfold wrap64; omega
    by_cases cc : nd.f1.length + 1 = nd.f2.length
    case neg =>
     have gc : ((nd.f1.length : Int) != (nd.f2.length : Int) - 1) = true := by rw [bne_iff_ne]; omega
     have hno : readD ns (f + 1) root next = none := by rw [HE.out, if_neg (fun h => cc h.2.2)]
     go_wp2_with fail
     refine bodyPost_ret (results_tt rfl _ _) rfl ?_
     exact ⟨by rw [← HW0.out]; exact HS0.out, Or.inl ⟨hno, rfl⟩⟩
    case pos =>
    have gc : ((nd.f1.length : Int) != (nd.f2.length : Int) - 1) = false := by rw [bne_eq_false_iff_eq]; omega
    have hee := HE.out
    rw [if_pos ⟨ca, cb, cc⟩] at hee
    replace HE := zA hee
    have HC := zA (And.intro ca (And.intro cb cc))
    obtain ⟨rl, hrl⟩ : ∃ rl, rl = readL (readD ns f false) nd.f1 nd.f2 0 0 (next + 1) [] := ⟨_, rfl⟩
    rw [← hrl] at hee
    replace HE := zA hee
    have HRL := zA hrl
    have HNK := zA (Kd.N_nil (kN 0) 67 W3 (mt + 1) (fun k => k < n0 ∨ mt + 1 ≤ k))
    have HX0 := zA (show (0 : Int) ≤ next + 1 by omega)
    go_wp2_with fail
    have HZ3 := HZ
    clear ga gab gb gbb gc hw hee hrl ca cb cc x0 x1 x2 x3 y0 y1 y2 y3
    go_loopg [7, 8, 102] nd.f2.length (fun kq v7 v8 v102 w' => ∃ (j : Nat) (acc : List S56) (lv : Nat) (nx : Int) (A7 : Option Addr) (c7 : Nat), v7 = .slice A7 acc.length c7 ∧ v8 = .int .i64 (lv : Int) ∧ v102 = .int .i64 (j : Int) ∧ Aside0 (j ≤ nd.f2.length ∧ nd.f2.length ≤ kq + j ∧ acc.length = j ∧ 0 ≤ nx ∧ lv ≤ 29) ∧ Aside0 (rl = readL (readD ns f false) nd.f1 (nd.f2.drop j) j lv nx acc) ∧ Aside0 (∀ k ∈ acc, goodD lv false k) ∧ Aside0 (j = 0 → A7 = none ∧ c7 = 0) ∧ Aside0 (w'.heap[g]? = some (.cells #[.slice (some ad) ns.length c, .int .i64 nx] 104 (0, 0))) ∧ Aside0 (Kd.N (kN lv) 67 w' (mt + 1) (fun k => k < n0 ∨ mt + 1 ≤ k) (.slice A7 acc.length c7) acc) ∧ Aside0 (NS g W3 w'))
    case atStart => exact ⟨0, [], 0, next + 1, none, 0, rfl, rfl, rfl, ⟨by omega, by omega, rfl, HX0.out, by omega⟩, HRL, ⟨by simp⟩, ⟨fun _ => ⟨rfl, rfl⟩⟩, KG, HNK, ⟨NS.refl _ _⟩⟩
    case round =>
     clear HNK KG HRL
     obtain ⟨j, acc, lv, nx, A7, c7, rfl, rfl, rfl, HI, HQ, HGA, HJ0, KG, HNK, HS⟩ := hrel
     replace KT := zA ((HS.out.k mt (by have := HZ.out; omega) (by have := HGT.out; omega)).trans KT.out)
     replace HF := zA (Kd.F_step HF.out (fun k hk hlt => HS.out.k k hlt (by have := HN0.out; omega)))
     replace FA := zA (Kd.F_step FA.out (fun k hk hlt => HS.out.k k hlt (by have := HN0.out; omega)))
     replace FB := zA (Kd.F_step FB.out (fun k hk hlt => HS.out.k k hlt (by have := HN0.out; omega)))
     replace HS0 := zA (HS0.out.trans HS.out)
     replace HZ := zA (show mt + 1 ≤ wr.heap.size by rw [← HZ.out]; exact HS.out.b.size)
     obtain ⟨x0, x1, x2, x3, y0, y1, y2, y3⟩ := blk_cells4 KT.out
     have r1 : wr.cell? ⟨g, 1, none⟩ = some (.int .i64 nx) := (blk_cell KG.out 1).trans rfl
     by_cases cj : j < nd.f2.length
     case neg =>
      have cjb : decide (j < nd.f2.length) = false := zK cj
      have hj : j = nd.f2.length := by have := HI.out; omega
      have HQE := zA (show rl = some (acc, lv, nx) by rw [HQ.out, hj, List.drop_length]; rfl)
      have hal : acc.length ≤ 4 := by have := HI.out; have := HC.out; omega
      have HWL := zA (show wrap64 ((lv : Int) + 1) = ((lv + 1 : Nat) : Int) from w64s lv (by have := HI.out; omega))
      clear hj x0 x1 x2 x3 y0 y1 y2 y3 r1
      go_wp2_with fail
      refine (newInner_any (d := lv) (ks := acc) (ok := fun k => k < n0 ∨ mt + 1 ≤ k) HI.out.2.2.2.2 (yI hal (by decide)) HGA.out (Kd.N_F HNK.out)).mono ?_
      rintro e W6 ⟨b, rfl, hbs, hbk, hbb⟩
      obtain ⟨S, hS⟩ : ∃ S, S = (acc.map (keysD lv)).flatten.length := ⟨_, rfl⟩
      rw [← hS] at hbk
      have KT6 := zH KT.out hbb
      obtain ⟨x0, x1, x2, x3, y0, y1, y2, y3⟩ := blk_cells4 KT6
      have b0 : W6.cell? ⟨b, 0, none⟩ = some (.int .i64 (S : Int)) := (blk_cell hbk 0).trans rfl
      have HKG6 := zA (zH KG.out hbb)
      have HNK6 := zA (Kd.N_below HNK.out hbb)
      have HS6 := zA (HS0.out.below hbb (by have := HZ.out; have := HGT.out; omega))
      have HBK := zA hbk
      have HBS := zA (show W0.heap.size ≤ b by have := HWT.out; have := HZ.out; omega)
      have hz6 : g ≤ W6.heap.size := by have := HZ.out; have := HGT.out; have := hbb.size; omega
      have HZ6 := zA hz6
      clear hbs hbk hbb hal KT6 hz6
      by_cases cs : (S : Int) = nd.f3
      case neg =>
       have csb : ((S : Int) != nd.f3) = true := by simp [cs]
       have hno : readD ns (f + 1) root next = none := by
        rw [HE.out, HQE.out]
        simp only
        rw [if_neg (by rw [← hS]; exact cs)]
       clear cs hS
       go_wp2_with fail
       go_quiet (fail)
       go_wp2_with fail
       refine bodyPost_ret (results_tt rfl _ _) rfl ?_
       exact ⟨by rw [← HW0.out]; exact HS6.out.below (zB (zZ _ _) _) HZ6.out, Or.inl ⟨hno, rfl⟩⟩
      case pos =>
       have csb : ((S : Int) != nd.f3) = false := by simp [cs]
       have hyes : readD ns (f + 1) root next = some (⟨false, [], acc⟩, lv + 1, nx) := by
        rw [HE.out, HQE.out]
        simp only
        rw [if_pos (by rw [← hS]; exact cs)]
       have HSS := zA hS
       clear cs hS
       go_wp2_with fail
       go_quiet (fail)
       go_wp2_with fail
       refine bodyPost_ret (results_tt rfl _ _) rfl ?_
       have hbd := zB (zZ W6.heap.size W6) nq
       refine ⟨by rw [← HW0.out]; exact HS6.out.below hbd HZ6.out, Or.inr ⟨⟨false, [], acc⟩, lv + 1, nx, 79, b, hyes, ?_, ?_, zH HKG6.out hbd⟩⟩
       ·first
         | rfl
         | (rw [← HWL.out]; rfl)
         | (simp only [Int.natCast_add, Int.natCast_one]; rfl)
       ·refine kN_mkS (d := lv) (A := A7) (c := c7) ⟨rfl, rfl, ?_, (Kd.N_reads' HNK6.out).2.1⟩ (Or.inr (by rw [← HW0.out]; exact HBS.out)) (Kd.F_mono (yF (Kd.N_F HNK6.out) hbd) (fun k hk => by rw [← HW0.out]; have := HWT.out; omega))
        have := zH HBK.out hbd
        rw [HSS.out] at this
        exact this
     case pos =>
      have cjb : decide (j < nd.f2.length) = true := zJ cj
      obtain ⟨mm, rfl⟩ : ∃ mm, gk = mm + 1 := ⟨gk - 1, by have := HI.out; omega⟩
      obtain ⟨ad2, hA2, hx⟩ := Kd.at_int (Kd.F_now FB.out) (j : Int) (by omega) (by omega)
      subst hA2
      simp only [Int.toNat_natCast] at hx
      have hqq := HQ.out
      rw [drop_rd _ _ cj, readL_cons] at hqq
      replace HQ := zA hqq
      have p5 : (0 ≤ (j : Int)) = True := eq_true (by omega)
      have q5 : ((j : Int) < (nd.f2.length : Int)) = True := eq_true (by omega)
      have q6 : (j < nd.f2.length) = True := eq_true cj
      have CJ := zA cj
      clear cj hqq
      by_cases ck : rd nd.f2 (j : Int) = nx
      case neg =>
       have ckb : (rd nd.f2 (j : Int) != nx) = true := by simp [ck]
       have hno : readD ns (f + 1) root next = none := by rw [HE.out, HQ.out, if_neg ck]
       go_wp2_with fail
       refine bodyPost_ret (results_tt rfl _ _) rfl ?_
       exact ⟨by rw [← HW0.out]; exact HS0.out, Or.inl ⟨hno, rfl⟩⟩
      case pos =>
      have ckb : (rd nd.f2 (j : Int) != nx) = false := by simp [ck]
      have hqq := HQ.out
      rw [if_pos ck] at hqq
      replace HQ := zA hqq
      clear hqq
      go_wp2_with fail
      try rw [show wrap64 (dep + 1) = dep + 1 by have := HP.out; unfold wrap64; omega]
      refine (IH.out (dep + 1) (by have := HP.out; omega) (by have := HP.out; omega) false (zK (by have := HP.out; omega)).symm nx HI.out.2.2.2.1 (some ad) c g wr HF.out HN0.out KG.out).mono ?_
      clear x0 x1 x2 x3 y0 y1 y2 y3 r1 hx ckb cjb p5 q5 q6
      rintro e W5 ⟨hs5, hend⟩
      replace KT := zA ((hs5.k mt (by have := HZ.out; omega) (by have := HGT.out; omega)).trans KT.out)
      replace HF := zA (Kd.F_step HF.out (fun k hk hlt => hs5.k k hlt (by have := HN0.out; omega)))
      replace FA := zA (Kd.F_step FA.out (fun k hk hlt => hs5.k k hlt (by have := HN0.out; omega)))
      replace FB := zA (Kd.F_step FB.out (fun k hk hlt => hs5.k k hlt (by have := HN0.out; omega)))
      replace HS0 := zA (HS0.out.trans hs5)
      replace HS := zA (HS.out.trans hs5)
      have HOLD := HNK
      have HZr := HZ
      replace HNK := zA (Kd.N_step HNK.out (fun k hk hlt => hs5.k k hlt (by have := HN0.out; have := HGT.out; omega)))
      replace HZ := zA (yI HZ.out hs5.b.size)
      obtain ⟨x0, x1, x2, x3, y0, y1, y2, y3⟩ := blk_cells4 KT.out
      rcases hend with ⟨hr, rfl⟩ | ⟨x, d, after, tp, b, hr, rfl, hK, hkg⟩
      ·have hno : readD ns (f + 1) root next = none := by rw [HE.out, HQ.out, hr]
       have hnn := eql_nn
       go_wp2_with fail
       go_quiet (fail)
       go_wp2_with fail
       refine bodyPost_ret (results_tt rfl _ _) rfl ?_
       exact ⟨by rw [← HW0.out]; exact HS0.out.below (zB (zZ _ _) _) (by have := HZ.out; have := HGT.out; omega), Or.inl ⟨hno, rfl⟩⟩
      ·obtain ⟨na, hna⟩ := Int.eq_ofNat_of_zero_le HI.out.2.2.2.1
       have hsd := readD_sound f false na x d after (by rw [← hna]; exact hr)
       have hdp := readD_depth f false _ _ _ _ hr
       have HGX := zA hsd.1
       have HAF := zA (show 0 ≤ after ∧ d ≤ 29 by refine ⟨by rw [hsd.2.2]; omega, ?_⟩; have := HP.out; omega)
       have hqq := HQ.out
       rw [hr] at hqq
       simp only at hqq
       have HQ2 := zA hqq
       have HKX := zA (Kd.FK_bound hK)
       have KG5 := zA hkg
       clear hsd hdp hqq hr hK hkg hna HQ KG ck
       have hen : ∀ w, (binOp .eql 67 (.iface tp (.pointer (some ⟨b, 0, none⟩))) .nilIface).run Try.prog w = .ok (.bool false) w := fun w => eql_nil w tp _
       obtain ⟨sep, hsep⟩ : ∃ sep, sep = nd.f1.getD (j - 1) ByteArray.empty := ⟨_, rfl⟩
       rw [← hsep] at HQ2
       have HSEP := zA hsep
       clear hsep
       obtain ⟨bad, hbad⟩ : ∃ bad, bad = decide (0 < j ∧ (d ≠ lv ∨ headK d x ≠ sep)) := ⟨_, rfl⟩
       unfold ifP
       go_upto_region 19 with (fail)
       go_cut [141] (fun v141 wc => v141 = .bool bad ∧ Aside0 (Below W5.heap.size W5 wc))
       case first =>
        by_cases c0 : 0 < j
        case neg =>
         have d0 : decide (0 < j) = false := zK c0
         have d0b : decide (0 < (j : Int)) = false := zK (by omega)
         have hb2 : bad = false := by rw [hbad]; exact zK (fun h => c0 h.1)
         subst hb2
         clear c0 hbad
         go_quiet (fail)
         go_wp2_with fail
         go_meet
         case rel => exact ⟨rfl, ⟨zB (zZ _ _) _⟩⟩
        case pos =>
         have d0 : decide (0 < j) = true := zJ c0
         have d0b : decide (0 < (j : Int)) = true := zJ (by omega)
         by_cases cd : d = lv
         case neg =>
           have d1 : ((d : Int) != (lv : Int)) = true := by rw [bne_iff_ne]; omega
           have hb2 : bad = true := by rw [hbad]; exact zJ ⟨c0, Or.inl cd⟩
           subst hb2
           clear c0 hbad cd
           go_quiet (fail)
           go_wp2_with fail
           go_meet
           case rel => exact ⟨rfl, ⟨zB (zZ _ _) _⟩⟩
         case pos =>
           subst cd
           have d1 : ((d : Int) != (d : Int)) = false := by simp
           have hjl : j - 1 < nd.f1.length := by have := HC.out; have := CJ.out; omega
           obtain ⟨adA, hAA, hxs⟩ := Kd.at_string (Kd.F_now FA.out) ((j - 1 : Nat) : Int) (by omega) (by omega)
           subst hAA
           rw [rdb_at _ _ hjl] at hxs
           simp only [Int.toNat_natCast] at hxs
           have hse : sep = nd.f1[j - 1] := by rw [HSEP.out, List.getD_eq_getElem?_getD, List.getElem?_eq_getElem hjl]; rfl
           rw [← hse] at hxs
           have HXS := zA hxs
           have s1 : IntKind.i64.wrap ((j : Int) - 1) = (j : Int) - 1 := by rw [i64_w]; have := CJ.out; have := HC.out; unfold wrap64; omega
           have s2 : 1 ≤ (j : Int) := by omega
           have s2b : 1 ≤ j := by omega
           have s3 : ((j : Int) - 1).toNat = j - 1 := by omega
           have s4 : (j : Int) - 1 < (nd.f1.length : Int) := by omega
           obtain ⟨fl, hm, hcl⟩ := node_least HKX.out HGX.out
           have HM := zA hm
           have hne : (headK d x).toList = sep.toList ↔ headK d x = sep := ⟨bs_inj, fun h => by rw [h]⟩
           have HCL := zA hcl
           clear hse hxs hm hcl
           refine start_ (n := 22) (S := fun w' => w'.heap[mt]? = some (.cells #[.bool nd.f0, .slice (some adA) nd.f1.length c1', .slice (some ad2) nd.f2.length c2', .int .i64 nd.f3] 90 (0, 0)) ∧ w'.cell? (adA.add (j - 1)) = some (.string sep)) (ds := []) #[false, false, false, false, false, false, false, false, false, false, false, false, false, false, false, false, false, false, false, false, false, false] (by kernel_rfl) rfl rfl ⟨KT.out, HXS.out⟩ (fun hHeld => ?_); refine with_tabW nod.gtab19 nod.gbits19 (fun HT_ HW_ => ?_)
           have hbd : Below W5.heap.size W5 W5.drew := below_drew (zZ _ _)
           have HB5 := zA hbd
           have KT5 := zA (zH KT.out hbd)
           have HXS5 := zA (cell_stay hbd HXS.out)
           have HKX5 := zA (yE HKX.out hbd)
           obtain ⟨fl2, hm2, hcl2⟩ := node_least HKX5.out HGX.out
           have HM2 := zA hm2
           have HCL2 := zA hcl2
           clear hbd x0 x1 x2 x3 y0 y1 y2 y3 hm2 hcl2
           generalize W5.drew = W6 at *
           refine pure_ (i := 0) (N := some 120) (v := ?_) (a' := ?_) #[true, false, false, false, false, false, false, false, false, false, false, false, false, false, false, false, false, false, false, false, false, false] rfl rfl (yM HT_.out (by kernel_rfl)) (fun _ _ _ h => h) (Or.inl ⟨by rfl, ?_⟩) ?_ ?_
           rotate_left
           · intro w'
             go_simp
             with_reducible rfl
           rotate_left
           · simp only [Act.put, zN, zO, zP, i64_w, i32_w]
             rfl
           refine pure_ (i := 1) (N := some 121) (v := ?_) (a' := ?_) #[true, true, false, false, false, false, false, false, false, false, false, false, false, false, false, false, false, false, false, false, false, false] rfl rfl (yM HT_.out (by kernel_rfl)) (fun _ _ _ h => h) (Or.inl ⟨by rfl, ?_⟩) ?_ ?_
           rotate_left
           · intro w'
             go_simp
             with_reducible rfl
           rotate_left
           · simp only [Act.put, zN, zO, zP, i64_w, i32_w]
             rfl
           refine pure_ (i := 2) (N := some 122) (v := ?_) (a' := ?_) #[true, true, true, false, false, false, false, false, false, false, false, false, false, false, false, false, false, false, false, false, false, false] rfl rfl (yM HT_.out (by kernel_rfl)) (fun _ _ _ h => h) (Or.inl ⟨by rfl, ?_⟩) ?_ ?_
           rotate_left
           · intro w'
             go_simp
             with_reducible rfl
           rotate_left
           · simp only [Act.put, zN, zO, zP, i64_w, i32_w]
             rfl
           refine pure_ (i := 3) (N := some 123) (v := ?_) (a' := ?_) #[true, true, true, true, false, false, false, false, false, false, false, false, false, false, false, false, false, false, false, false, false, false] rfl rfl (yM HT_.out (by kernel_rfl)) (fun _ _ _ h => h) (Or.inl ⟨by rfl, ?_⟩) ?_ ?_
           rotate_left
           · intro w'
             go_simp
             with_reducible rfl
           rotate_left
           · simp only [Act.put, zN, zO, zP, i64_w, i32_w]
             rfl
           refine pure_ (i := 4) (N := some 124) (v := ?_) (a' := ?_) #[true, true, true, true, true, false, false, false, false, false, false, false, false, false, false, false, false, false, false, false, false, false] rfl rfl (yM HT_.out (by kernel_rfl)) (fun _ _ _ h => h) (Or.inl ⟨by rfl, ?_⟩) ?_ ?_
           rotate_left
           · intro w'
             go_simp
             with_reducible rfl
           rotate_left
           · simp only [Act.put, zN, zO, zP, i64_w, i32_w]
             rfl
           refine pure_ (i := 5) (N := some 125) (v := ?_) (a' := ?_) #[true, true, true, true, true, true, false, false, false, false, false, false, false, false, false, false, false, false, false, false, false, false] rfl rfl (yM HT_.out (by kernel_rfl)) (fun _ _ _ h => h) (Or.inl ⟨by rfl, ?_⟩) ?_ ?_
           rotate_left
           · intro w'
             go_simp
             with_reducible rfl
           rotate_left
           · simp only [Act.put, zN, zO, zP, i64_w, i32_w]
             rfl
           refine pure_ (i := 6) (N := some 126) (v := ?_) (a' := ?_) #[true, true, true, true, true, true, true, false, false, false, false, false, false, false, false, false, false, false, false, false, false, false] rfl rfl (yM HT_.out (by kernel_rfl)) (fun _ _ _ h => h) (Or.inl ⟨by rfl, ?_⟩) ?_ ?_
           rotate_left
           · intro w'
             go_simp
             with_reducible rfl
           rotate_left
           · simp only [Act.put, zN, zO, zP, i64_w, i32_w]
             rfl
           refine pure_ (i := 7) (N := some 127) (v := ?_) (a' := ?_) #[true, true, true, true, true, true, true, true, false, false, false, false, false, false, false, false, false, false, false, false, false, false] rfl rfl (yM HT_.out (by kernel_rfl)) (fun _ _ _ h => h) (Or.inl ⟨by rfl, ?_⟩) ?_ ?_
           rotate_left
           · intro w'
             go_simp
             with_reducible rfl
           rotate_left
           · simp only [Act.put, zN, zO, zP, i64_w, i32_w]
             rfl
           refine pure_ (i := 8) (N := some 128) (v := ?_) (a' := ?_) #[true, true, true, true, true, true, true, true, true, false, false, false, false, false, false, false, false, false, false, false, false, false] rfl rfl (yM HT_.out (by kernel_rfl)) (fun _ _ _ h => h) (Or.inl ⟨by rfl, ?_⟩) ?_ ?_
           rotate_left
           · intro w'
             go_simp
             with_reducible rfl
           rotate_left
           · simp only [Act.put, zN, zO, zP, i64_w, i32_w]
             rfl
           refine pure_ (i := 9) (N := some 129) (v := ?_) (a' := ?_) #[true, true, true, true, true, true, true, true, true, true, false, false, false, false, false, false, false, false, false, false, false, false] rfl rfl (yM HT_.out (by kernel_rfl)) (fun _ _ _ h => h) (Or.inl ⟨by rfl, ?_⟩) ?_ ?_
           rotate_left
           · intro w'
             go_simp
             with_reducible rfl
           rotate_left
           · simp only [Act.put, zN, zO, zP, i64_w, i32_w]
             rfl
           refine pure_ (i := 10) (N := some 130) (v := ?_) (a' := ?_) #[true, true, true, true, true, true, true, true, true, true, true, false, false, false, false, false, false, false, false, false, false, false] rfl rfl (yM HT_.out (by kernel_rfl)) (fun _ _ _ h => h) (Or.inl ⟨by rfl, ?_⟩) ?_ ?_
           rotate_left
           · intro w'
             go_simp
             with_reducible rfl
           rotate_left
           · simp only [Act.put, zN, zO, zP, i64_w, i32_w]
             rfl
           refine pure_ (i := 12) (N := some 132) (v := ?_) (a' := ?_) #[true, true, true, true, true, true, true, true, true, true, true, false, true, false, false, false, false, false, false, false, false, false] rfl rfl (yM HT_.out (by kernel_rfl)) (fun _ _ _ h => h) (Or.inl ⟨by rfl, ?_⟩) ?_ ?_
           rotate_left
           · intro w'
             go_simp
             with_reducible rfl
           rotate_left
           · simp only [Act.put, zN, zO, zP, i64_w, i32_w]
             rfl
           refine take_ (i := 13) (N := some 133) (v := ?_) (a' := ?_) #[true, true, true, true, true, true, true, true, true, true, true, false, true, true, false, false, false, false, false, false, false, false] rfl rfl (yL HT_.out HW_.out (by kernel_rfl)) (fun _ _ _ h => h) (Or.inl ⟨by rfl, ?_⟩) hHeld ?_ ?_
           rotate_left
           · rintro w' ⟨s0, s1⟩
             obtain ⟨x0, x1, x2, x3, y0, y1, y2, y3⟩ := blk_cells4 s0
             go_simp
             with_reducible rfl
           rotate_left
           · simp only [Act.put, zN, zO, zP, i64_w, i32_w]
             rfl
           refine pure_ (i := 14) (N := some 134) (v := ?_) (a' := ?_) #[true, true, true, true, true, true, true, true, true, true, true, false, true, true, true, false, false, false, false, false, false, false] rfl rfl (yM HT_.out (by kernel_rfl)) (fun _ _ _ h => h) (Or.inl ⟨by rfl, ?_⟩) ?_ ?_
           rotate_left
           · intro w'
             go_simp
             with_reducible rfl
           rotate_left
           · simp only [Act.put, zN, zO, zP, i64_w, i32_w]
             rfl
           refine pure_ (i := 15) (N := some 135) (v := ?_) (a' := ?_) #[true, true, true, true, true, true, true, true, true, true, true, false, true, true, true, true, false, false, false, false, false, false] rfl rfl (yM HT_.out (by kernel_rfl)) (fun _ _ _ h => h) (Or.inl ⟨by rfl, ?_⟩) ?_ ?_
           rotate_left
           · intro w'
             go_simp
             with_reducible rfl
           rotate_left
           · simp only [Act.put, zN, zO, zP, i64_w, i32_w]
             rfl
           refine pure_ (i := 16) (N := some 136) (v := ?_) (a' := ?_) #[true, true, true, true, true, true, true, true, true, true, true, false, true, true, true, true, true, false, false, false, false, false] rfl rfl (yM HT_.out (by kernel_rfl)) (fun _ _ _ h => h) (Or.inl ⟨by rfl, ?_⟩) ?_ ?_
           rotate_left
           · intro w'
             go_simp
             with_reducible rfl
           rotate_left
           · simp only [Act.put, zN, zO, zP, i64_w, i32_w]
             rfl
           refine take_ (i := 17) (N := some 137) (v := ?_) (a' := ?_) #[true, true, true, true, true, true, true, true, true, true, true, false, true, true, true, true, true, true, false, false, false, false] rfl rfl (yL HT_.out HW_.out (by kernel_rfl)) (fun _ _ _ h => h) (Or.inl ⟨by rfl, ?_⟩) hHeld ?_ ?_
           rotate_left
           · rintro w' ⟨s0, s1⟩
             go_simp
             with_reducible rfl
           rotate_left
           · simp only [Act.put, zN, zO, zP, i64_w, i32_w]
             rfl
           refine one_ (i := 11) (N := some 131) #[true, true, true, true, true, true, true, true, true, true, true, true, true, true, true, true, true, true, false, false, false, false] rfl rfl (yN HT_.out (by kernel_rfl)) (by decide) (fun K hK => ?_)
           refine call_ fl2 #[.pointer (some ⟨b, 0, none⟩)] (by rfl) rfl (run_invoke rfl rfl (HM2.out _)) ?_
           refine HCL2.out.mono ?_
           rintro e We ⟨rfl, rfl⟩
           refine ⟨_, rfl, ?_⟩
           refine hK.out _ _ ⟨KT5.out, HXS5.out⟩ (fun hHeld => ?_)
           clear hK K
           refine norm_ (a' := ?_) ?_ ?_
           rotate_left
           · show Act.put _ (some 131) _ = _
             simp only [Act.put, zN, zO, zP, i64_w, i32_w]
             rfl
           refine pure_ (i := 18) (N := some 138) (v := ?_) (a' := ?_) #[true, true, true, true, true, true, true, true, true, true, true, true, true, true, true, true, true, true, true, false, false, false] rfl rfl (yM HT_.out (by kernel_rfl)) (fun _ _ _ h => h) (Or.inl ⟨by rfl, ?_⟩) ?_ ?_
           rotate_left
           · intro w'
             go_simp
             with_reducible rfl
           rotate_left
           · simp only [Act.put, zN, zO, zP, i64_w, i32_w]
             rfl
           refine pure_ (i := 19) (N := some 139) (v := ?_) (a' := ?_) #[true, true, true, true, true, true, true, true, true, true, true, true, true, true, true, true, true, true, true, true, false, false] rfl rfl (yM HT_.out (by kernel_rfl)) (fun _ _ _ h => h) (Or.inl ⟨by rfl, ?_⟩) ?_ ?_
           rotate_left
           · intro w'
             go_simp
             with_reducible rfl
           rotate_left
           · simp only [Act.put, zN, zO, zP, i64_w, i32_w]
             rfl
           refine pure_ (i := 20) (N := some 140) (v := ?_) (a' := ?_) #[true, true, true, true, true, true, true, true, true, true, true, true, true, true, true, true, true, true, true, true, true, false] rfl rfl (yM HT_.out (by kernel_rfl)) (fun _ _ _ h => h) (Or.inl ⟨by rfl, ?_⟩) ?_ ?_
           rotate_left
           · intro w'
             go_simp
             with_reducible rfl
           rotate_left
           · simp only [Act.put, zN, zO, zP, i64_w, i32_w]
             rfl
           refine pure_ (i := 21) (N := some 141) (v := ?_) (a' := ?_) #[true, true, true, true, true, true, true, true, true, true, true, true, true, true, true, true, true, true, true, true, true, true] rfl rfl (yM HT_.out (by kernel_rfl)) (fun _ _ _ h => h) (Or.inl ⟨by rfl, ?_⟩) ?_ ?_
           rotate_left
           · intro w'
             go_simp
             with_reducible rfl
           rotate_left
           · simp only [Act.put, zN, zO, zP, i64_w, i32_w]
             rfl
           refine done_ (done_of HT_.out (by kernel_rfl)) ?_
           go_wp2_with fail
           go_meet
           case rel =>
             refine ⟨?_, HB5⟩
             rw [hbad]
             first
              | (congr 1; rw [Bool.eq_iff_iff]; simp [c0, hne]; done)
              | (congr 1; simp [c0, hne]; done)
              | (trace_state; sorry)
       case rest =>
        obtain ⟨rfl, HBC⟩ := hcut
        replace KT := zA (zH KT.out HBC.out)
        replace KG5 := zA (zH KG5.out HBC.out)
        have HS9 := zA (HS.out.below HBC.out (by have := HZ.out; have := HGT.out; omega))
        have HS0' := zA (HS0.out.below HBC.out (by have := HZ.out; have := HGT.out; omega))
        have HNK9 := zA (Kd.N_below HNK.out HBC.out)
        have HKX9 := zA (yE HKX.out HBC.out)
        replace HZ := zA (yI HZ.out (below_sz HBC.out))
        clear HF FA FB HS HS0 HNK HKX HBC IH x0 x1 x2 x3 y0 y1 y2 y3 hen
        rcases hbb : bad with _ | _
        case true =>
         rw [hbb] at hbad
         have hno : readD ns (f + 1) root next = none := by rw [HE.out, HQ2.out, if_pos (zI hbad.symm)]
         clear hbad hbb
         go_wp2_with fail
         refine bodyPost_ret (results_tt rfl _ _) rfl ?_
         exact ⟨by rw [← HW0.out]; exact HS0'.out, Or.inl ⟨hno, rfl⟩⟩
        case false =>
         rw [hbb] at hbad
         have hng := of_decide_eq_false hbad.symm
         have HQ3 := zA (show rl = readL (readD ns f false) nd.f1 (nd.f2.drop (j + 1)) (j + 1) d after (acc ++ [x]) by rw [HQ2.out, if_neg hng])
         have hlv : 0 < j → d = lv := fun h0 => Decidable.byContradiction fun hne => hng ⟨h0, Or.inl hne⟩
         have HND9 := zA (show Kd.N (kN d) 67 wc (mt + 1) (fun k => k < n0 ∨ mt + 1 ≤ k) (.slice A7 acc.length c7) acc by
           rcases Nat.eq_zero_or_pos j with h0 | h0
           · have ha : acc = [] := List.length_eq_zero_iff.1 (by have := HI.out; omega)
             obtain ⟨rfl, rfl⟩ := HJ0.out h0
             subst ha
             exact Kd.N_nil _ _ _ _ _
           · rw [hlv h0]; exact HNK9.out)
         have HGA2 := zA (show ∀ k ∈ acc ++ [x], goodD d false k by
           intro k hk
           rcases List.mem_append.1 hk with hk | hk
           · have h0 : 0 < j := by have := List.length_pos_of_mem hk; have := HI.out; omega
             rw [hlv h0]
             exact HGA.out k hk
           · rw [List.mem_singleton.1 hk]; exact HGX.out)
         have hfp : ∀ k, ((k < n0 ∨ wr.heap.size ≤ k) ∧ k < W5.heap.size) → (k < n0 ∨ mt + 1 ≤ k) ∧ some k ≠ (Value.slice A7 acc.length c7).ownBlock := fun k hk => ⟨by have := hk.1; have := HZr.out; omega, fun he => by
           have h1 := Kd.N_lt HOLD.out k he.symm
           have h2 := Kd.N_base HOLD.out k he.symm
           have := HN0.out
           have := HGT.out
           omega⟩
         have HFP := zA hfp
         have HW9 := zA (w64s j (by have := CJ.out; have := HC.out; omega))
         clear hbad hbb hng hlv hfp HNK9 HOLD HGA HJ0 HQ2
         go_wp2_with ((with_reducible refine gate_builtin (b := .append) (xs := #[.tmp 143, .tmp 145]) rfl ?_); at_builtin; refine Kd.N_append (kN d) (w0 := wc) (mt + 1) rfl (.tmp 143) (.tmp 145) 77 67 .nilIface 16 rfl Try.underlying77 (by rw [kN_sz]; kernel_rfl) (by rw [kN_sz]; rfl) (by rw [kN_sz]; decide) (by omega) (.slice A7 acc.length c7) acc x [ifP tp b] (fun k => k < n0 ∨ mt + 1 ≤ k) (fun k => (k < n0 ∨ wr.heap.size ≤ k) ∧ k < W5.heap.size) rfl rfl ?aP HFP.out ?aF ?aO ?aB ?aS ?aL ?_; (case aP => exact HKX9.out); (case aB => exact zZ _ _); (case aF => exact fun k hk => Or.inr (yI HZ.out hk)); (case aO => exact HND9.out); (case aS => exact HZ.out); (case aL => have := HI.out; have := CJ.out; have := HC.out; omega); intro v146 w9 ho hb hg hat; obtain ⟨A9, c9, rfl⟩ := Kd.N_slice ho; have HN9 := zA ho; have KG9 := zA ((hb.block g (by have := HGT.out; omega)).trans KG5.out); have HSN := zA (show NS g W3 w9 from ⟨below_same HS9.out.b (below_less hb (by have := HGT.out; omega)), fun k hk hne => (hb.block k (by rw [← HZ3.out]; exact hk)).trans (HS9.out.k k hk hne)⟩); clear ho hb hg hat)
         go_roundg mm
         case measure => omega
         case rel => exact ⟨j + 1, acc ++ [x], d, after, A9, c9, by rw [List.length_append]; rfl, rfl, by first | (rw [HW9.out]; done) | (simp; done), ⟨by have := HI.out; have := CJ.out; have := HAF.out; rw [List.length_append, List.length_singleton]; omega⟩, HQ3, HGA2, ⟨fun h => absurd h (Nat.succ_ne_zero j)⟩, KG9, HN9, HSN⟩

/-! ### zx_walk: a text by hand -/
-- uses blk_cells3 at_N kN_open0
/-- impl's walk over a tree: the closure keeps J; it is told the keys in order until it says no. -/
def runK {σ : Type} (step : σ → ByteArray → σ × Bool) : List ByteArray → σ → σ × Bool
 | [], s => (s, true)
 | k :: ks, s => if (step s k).2 = true then runK step ks (step s k).1 else ((step s k).1, false)
theorem runK_append {σ : Type} (step : σ → ByteArray → σ × Bool) : ∀ (ks ls : List ByteArray) (s : σ), runK step (ks ++ ls) s = if (runK step ks s).2 = true then runK step ls (runK step ks s).1 else ((runK step ks s).1, false)
 | [], ls, s => by simp [runK]
 | k :: ks, ls, s => by
   simp only [List.cons_append, runK]
   split
   ·exact runK_append step ks ls _
   ·rfl
theorem ta_00 (p : Value) (w : World) : (Instr.typeAssert (.iface 58 p) 67 58 true).run Try.prog w = .ok (.tuple #[p, .bool true]) w := by kernel_rfl
theorem ta_S0 (p : Value) (w : World) : (Instr.typeAssert (.iface 79 p) 67 58 true).run Try.prog w = .ok (.tuple #[.pointer none, .bool false]) w := by kernel_rfl
theorem ta_SS (p : Value) (w : World) : (Instr.typeAssert (.iface 79 p) 67 79 true).run Try.prog w = .ok (.tuple #[p, .bool true]) w := by kernel_rfl
/-- A call of a closure that is a value. -/
theorem run_closure {P : Program} {oi : Oper} {a : Act} {w : World} {x : Operand} {ars : Array Operand} {ts : Array TypeId} {f : FuncId} {fn : Func} {cap : Array Value} (hf : P.funcs[f]? = some fn) (hname : (fn.name == "runtime.NumGoroutine") = false) (hb : fn.body.isSome = true) (args : Array Value)
  (hop : oi.op = .call { callee := .value x, args := ars, argTypes := ts }) (hx : a.eval x = .func (.func f) #[] cap) (hargs : ars.map a.eval = args) : (execOp a.eval oi).run P w = .ok (.enter f (args ++ cap)) w := by
 have he := enters_ hf hname hb (args ++ cap) w
 unfold execOp
 simp [hop, resolve, Deferred.ofValue, invoke, hx, hargs, he]
structure WJ {σ : Type} (J : σ → World → Prop) (step : σ → ByteArray → σ × Bool) (fid : FuncId) (cap : Array Value) (W0 : World) (okT : Nat → Prop) : Prop where
 fn : ∃ fn, Try.prog.funcs[fid]? = some fn ∧ (fn.name == "runtime.NumGoroutine") = false ∧ fn.body.isSome = true
 call : ∀ (s : σ) (k : ByteArray) (W : World), J s W → Calls Try.prog fid (#[.string k] ++ cap) W fun e W' => e = .returned (.bool (step s k).2) ∧ J (step s k).1 W'
 kept : ∀ (s : σ) (W : World), J s W → ∀ k, okT k → k < W0.heap.size → W.heap[k]? = W0.heap[k]?
set_option maxHeartbeats 8000000 in
set_option maxRecDepth 100000 in
theorem walk_any {σ : Type} {J : σ → World → Prop} {step : σ → ByteArray → σ × Bool} {fid : FuncId} {cap : Array Value} {W0 : World} {okT : Nat → Prop} (H : WJ J step fid cap W0 okT) : ∀ (d : Nat) (t : S56) (v : Value) (_ : Kd.FK (kN d) W0 okT t [v]) (s : σ) (W : World) (_ : J s W),
   Calls Try.prog 49 #[v, .func (.func fid) #[] cap] W fun e W' => e = .returned (.bool (runK step (keysD d t) s).2) ∧ J (runK step (keysD d t) s).1 W' := by
 intro d
 induction d with
 | zero =>
   intro t v hK s W hJ
   obtain ⟨b, A, c, ke, kl, kb, kF⟩ := kN_open0 hK
   have hv : v = ifP 58 b := by simpa using ke
   subst hv
   unfold ifP
   have hbl := (Array.getElem?_eq_some_iff.1 kl.2.2.1).1
   have x1 : W.cell? ⟨b, 1, none⟩ = some (.slice A t.f1.length c) := (blk_cell ((H.kept s W hJ b kb hbl).trans kl.2.2.1) 1).trans rfl
   have hu2 := Try.underlying93
   have hta := ta_00
   have HF := zA kF
   have HJ := zA hJ
   have HM := zA (Kd.F_max kF)
   clear ke kl kb kF hJ hK hbl
   go_enter Try.func49, Try.ntmps49
   go_wp2_with fail
   go_loopg [7, 20] t.f1.length (fun kq v7 v20 w' => ∃ (j : Nat) (s' : σ), v20 = .int .i64 (j : Int) ∧ Aside0 (j ≤ t.f1.length ∧ t.f1.length ≤ kq + j) ∧ Aside0 (runK step t.f1 s = runK step (t.f1.drop j) s') ∧ Aside0 (J s' w'))
   case atStart => exact ⟨0, s, rfl, ⟨by omega, by omega⟩, ⟨rfl⟩, HJ⟩
   case round =>
    clear HJ x1
    obtain ⟨j, s', rfl, HI, HQ, HJ⟩ := hrel
    by_cases cj : j < t.f1.length
    case neg =>
     have cjb : decide (j < t.f1.length) = false := zK cj
     have hj : j = t.f1.length := by have := HI.out; omega
     have HE := zA (show runK step (keysD 0 t) s = (s', true) by
      show runK step t.f1 s = _
      rw [HQ.out, hj, List.drop_length]
      rfl)
     clear hj cj
     go_wp2_with fail
     go_ret
     rw [HE.out]
     exact ⟨rfl, HJ.out⟩
    case pos =>
     have cjb : decide (j < t.f1.length) = true := zJ cj
     obtain ⟨mm, rfl⟩ : ∃ mm, gk = mm + 1 := ⟨gk - 1, by have := HI.out; omega⟩
     obtain ⟨ad, rfl, hx⟩ := Kd.at_string (Kd.F_now (Kd.F_step HF.out (H.kept s' wr HJ.out))) (j : Int) (by omega) (by omega)
     rw [rdb_at _ _ cj] at hx
     simp only [Int.toNat_natCast] at hx
     have p5 : (0 ≤ (j : Int)) = True := eq_true (by omega)
     have q5 : ((j : Int) < (t.f1.length : Int)) = True := eq_true (by omega)
     have q6 : (j < t.f1.length) = True := eq_true cj
     have HQ2 := zA (show runK step t.f1 s = if (step s' (t.f1[j]'cj)).2 = true then runK step (t.f1.drop (j + 1)) (step s' (t.f1[j]'cj)).1 else ((step s' (t.f1[j]'cj)).1, false) by
      rw [HQ.out, List.drop_eq_getElem_cons cj]
      rfl)
     have HW9 := zA (w64m j (by have := HM.out; omega))
     obtain ⟨key, hkey⟩ : ∃ key, key = t.f1[j]'cj := ⟨_, rfl⟩
     rw [← hkey] at hx HQ2
     clear hkey
     obtain ⟨q, hq⟩ : ∃ q, q = step s' key := ⟨_, rfl⟩
     have HCL := zA (H.call s' key wr HJ.out)
     rw [← hq] at HQ2 HCL
     clear hq
     obtain ⟨s2, ans⟩ := q
     obtain ⟨fn, hf, hname, hbody⟩ := H.fn
     rcases ans with _ | _
     case false =>
      have HE := zA (show runK step (keysD 0 t) s = (s2, false) from HQ2.out)
      go_wp2_with ((with_reducible refine gate_dst (N := 26) rfl ?_); refine goesI_ (some 26) rfl rfl fid (#[.string key] ++ cap) (run_closure hf hname hbody #[.string key] rfl rfl (by (try simp only [yG, yH, List.map_nil]); first | done | rfl)) ?_; refine HCL.out.mono ?_; rintro e W9 ⟨rfl, hj9⟩; refine ⟨_, rfl, ?_⟩; have HJ9 := zA hj9; clear hj9)
      go_ret
      rw [HE.out]
      exact ⟨rfl, HJ9.out⟩
     case true =>
      have HE := zA (show runK step t.f1 s = runK step (t.f1.drop (j + 1)) s2 from HQ2.out)
      go_wp2_with ((with_reducible refine gate_dst (N := 26) rfl ?_); refine goesI_ (some 26) rfl rfl fid (#[.string key] ++ cap) (run_closure hf hname hbody #[.string key] rfl rfl (by (try simp only [yG, yH, List.map_nil]); first | done | rfl)) ?_; refine HCL.out.mono ?_; rintro e W9 ⟨rfl, hj9⟩; refine ⟨_, rfl, ?_⟩; have HJ9 := zA hj9; clear hj9)
      go_roundg mm
      case measure => omega
      case rel => exact ⟨j + 1, s2, by first | (rw [HW9.out]; done) | (simp; done), ⟨by have := HI.out; omega⟩, HE, HJ9⟩
 | succ d ih =>
   intro t v hK s W hJ
   obtain ⟨b, A, c, ke, kl, kb, kF⟩ := kN_openS hK
   have hv : v = ifP 79 b := by simpa using ke
   subst hv
   unfold ifP
   have hbl := (Array.getElem?_eq_some_iff.1 kl.2.2.1).1
   have x1 : W.cell? ⟨b, 1, none⟩ = some (.slice A t.f2.length c) := (blk_cell ((H.kept s W hJ b kb hbl).trans kl.2.2.1) 1).trans rfl
   have hu2 := Try.underlying87
   have hta := ta_S0
   have hta2 := ta_SS
   have HF := zA kF
   have HJ := zA hJ
   have HM := zA (Kd.F_max kF)
   have IH := zA ih
   clear ke kl kb kF hJ hK hbl ih
   go_enter Try.func49, Try.ntmps49
   go_wp2_with fail
   go_loopg [10, 37] t.f2.length (fun kq v10 v37 w' => ∃ (j : Nat) (s' : σ), v37 = .int .i64 (j : Int) ∧ Aside0 (j ≤ t.f2.length ∧ t.f2.length ≤ kq + j) ∧ Aside0 (runK step (keysD (d + 1) t) s = runK step (((t.f2.drop j).map (keysD d)).flatten) s') ∧ Aside0 (J s' w'))
   case atStart => exact ⟨0, s, rfl, ⟨by omega, by omega⟩, ⟨rfl⟩, HJ⟩
   case round =>
    clear HJ x1
    obtain ⟨j, s', rfl, HI, HQ, HJ⟩ := hrel
    by_cases cj : j < t.f2.length
    case neg =>
     have cjb : decide (j < t.f2.length) = false := zK cj
     have hj : j = t.f2.length := by have := HI.out; omega
     have HE := zA (show runK step (keysD (d + 1) t) s = (s', true) by
      rw [HQ.out, hj, List.drop_length]
      rfl)
     clear hj cj
     go_wp2_with fail
     go_ret
     rw [HE.out]
     exact ⟨rfl, HJ.out⟩
    case pos =>
     have cjb : decide (j < t.f2.length) = true := zJ cj
     obtain ⟨mm, rfl⟩ : ∃ mm, gk = mm + 1 := ⟨gk - 1, by have := HI.out; omega⟩
     obtain ⟨ad, v, rfl, hx, hK, hkb⟩ := at_N HF.out j cj
     rw [rd56_at _ _ cj] at hK
     have HQ2 := zA (show runK step (keysD (d + 1) t) s = if (runK step (keysD d (t.f2[j]'cj)) s').2 = true then runK step (((t.f2.drop (j + 1)).map (keysD d)).flatten) (runK step (keysD d (t.f2[j]'cj)) s').1 else ((runK step (keysD d (t.f2[j]'cj)) s').1, false) by
      rw [HQ.out, List.drop_eq_getElem_cons cj, yH, List.flatten_cons, runK_append])
     have HCL := zA (IH.out (t.f2[j]'cj) v hK s' wr HJ.out)
     obtain ⟨q, hq⟩ : ∃ q, q = runK step (keysD d (t.f2[j]'cj)) s' := ⟨_, rfl⟩
     rw [← hq] at HQ2 HCL
     have hxw : wr.cell? (ad.add j) = some v := by
      have := H.kept s' wr HJ.out (ad.add j).block hkb (zM W0 _ hx)
      simpa [World.cell?, this] using hx
     clear hq hx
     obtain ⟨s2, ans⟩ := q
     have p5 : (0 ≤ (j : Int)) = True := eq_true (by omega)
     have q5 : ((j : Int) < (t.f2.length : Int)) = True := eq_true (by omega)
     have q6 : (j < t.f2.length) = True := eq_true cj
     have HW9 := zA (w64m j (by have := HM.out; omega))
     rcases ans with _ | _
     case false =>
      have HE := zA (show runK step (keysD (d + 1) t) s = (s2, false) from HQ2.out)
      go_wp2_with fail
      refine HCL.out.mono ?_
      rintro e W9 ⟨rfl, hj9⟩
      have HJ9 := zA hj9
      clear hj9
      go_wp2_with fail
      go_ret
      rw [HE.out]
      exact ⟨rfl, HJ9.out⟩
     case true =>
      have HE := zA (show runK step (keysD (d + 1) t) s = runK step (((t.f2.drop (j + 1)).map (keysD d)).flatten) s2 from HQ2.out)
      go_wp2_with fail
      refine HCL.out.mono ?_
      rintro e W9 ⟨rfl, hj9⟩
      have HJ9 := zA hj9
      clear hj9
      go_wp2_with fail
      go_roundg mm
      case measure => omega
      case rel => exact ⟨j + 1, s2, by first | (rw [HW9.out]; done) | (simp; done), ⟨by have := HI.out; omega⟩, HE, HJ9⟩

/-! ### zy_root: a text by hand -/
-- uses blk_cells3 NS heap90 ascK
def stepR (s : Bool × ByteArray) (k : ByteArray) : (Bool × ByteArray) × Bool := ((false, k), decide (k.size ≤ 16) && (s.1 || Op.bytesLess s.2.toList k.toList))
def ascF (last : ByteArray) : List ByteArray → Prop
 | [] => True
 | k :: ks => k.size ≤ 16 ∧ Op.bytesLess last.toList k.toList = true ∧ ascF k ks
theorem ascF_run : ∀ (ks : List ByteArray) (last : ByteArray), (runK stepR ks (false, last)).2 = true ↔ ascF last ks
 | [], last => by simp [runK, ascF]
 | k :: ks, last => by
   have h := ascF_run ks k
   simp only [runK, ascF, stepR, Bool.false_or]
   by_cases c1 : k.size ≤ 16
   ·cases c2 : Op.bytesLess last.toList k.toList
    ·simp [c1]
    ·simp [c1, h]
   ·simp [c1]
theorem ascF_iff : ∀ (ks : List ByteArray) (last : ByteArray), ascF last ks ↔ ∀ (j : Nat) (x : ByteArray), ks[j]? = some x → x.size ≤ 16 ∧ ∀ y, (last :: ks)[j]? = some y → Op.bytesLess y.toList x.toList = true
 | [], last => by simp [ascF]
 | k :: ks, last => by
   have h := ascF_iff ks k
   simp only [ascF]
   constructor
   ·rintro ⟨h1, h2, h3⟩ j x hx
    cases j with
    | zero =>
      simp only [List.getElem?_cons_zero, Option.some.injEq] at hx
      subst hx
      exact ⟨h1, fun y hy => by simp at hy; rw [← hy]; exact h2⟩
    | succ j => exact h.1 h3 j x (by simpa using hx)
   ·intro hh
    have h0 := hh 0 k rfl
    exact ⟨h0.1, h0.2 last rfl, h.2 (fun j x hx => hh (j + 1) x (by simpa using hx))⟩
theorem ascK_cons (k : ByteArray) (ks : List ByteArray) : ascK (k :: ks) ↔ k.size ≤ 16 ∧ ascF k ks := by
 rw [ascF_iff]
 constructor
 ·intro h
  refine ⟨(h 0 k rfl).1, fun j x hx => ?_⟩
  have := h (j + 1) x (by simpa using hx)
  exact ⟨this.1, fun y hy => this.2 y (by omega) (by simpa using hy)⟩
 ·rintro ⟨h1, h2⟩ j x hx
  cases j with
  | zero =>
    simp only [List.getElem?_cons_zero, Option.some.injEq] at hx
    subst hx
    exact ⟨h1, fun y h0 => absurd h0 (Nat.lt_irrefl 0)⟩
  | succ j =>
    have := h2 j x (by simpa using hx)
    exact ⟨this.1, fun y _ hy => this.2 y (by simpa using hy)⟩
theorem asc_run (ks : List ByteArray) (e : ByteArray) : (runK stepR ks (true, e)).2 = true ↔ ascK ks := by
 cases ks with
 | nil => simp [runK, ascK]
 | cons k ks =>
   rw [ascK_cons]
   simp only [runK, stepR, Bool.true_or, Bool.and_true]
   by_cases c1 : k.size ≤ 16
   ·simp [c1, ascF_run]
   ·simp [c1]
theorem seg_full {ns l : List S90} (h : Seg ns 0 l) (hl : l.length = ns.length) : l = ns := by
 obtain ⟨r, h⟩ := h
 simp only [List.drop_zero] at h
 have : r = [] := List.length_eq_zero_iff.1 (by have := congrArg List.length h; simp at this; omega)
 rw [h, this, List.append_nil]
set_option maxHeartbeats 4000000 in
set_option maxRecDepth 100000 in
theorem rootC_any {W : World} {gF gL : Nat} {first : Bool} {last k : ByteArray} (hF : W.heap[gF]? = some (.cells #[.bool first] 4 (0, 0))) (hL : W.heap[gL]? = some (.cells #[.string last] 9 (0, 0))) (hne : gF ≠ gL) :
  Calls Try.prog 71 #[.string k, .pointer (some ⟨gF, 0, none⟩), .pointer (some ⟨gL, 0, none⟩)] W fun e W' => e = .returned (.bool (stepR (first, last) k).2) ∧ W' = (W.setCell ⟨gL, 0, none⟩ (.string k)).setCell ⟨gF, 0, none⟩ (.bool false) := by
 have x0 : W.cell? ⟨gF, 0, none⟩ = some (.bool first) := (blk_cell hF 0).trans rfl
 have y0 := zG hF 0
 have x1 : W.cell? ⟨gL, 0, none⟩ = some (.string last) := (blk_cell hL 0).trans rfl
 have y1 := zG hL 0
 have hne2 : gL ≠ gF := fun h => hne h.symm
 obtain ⟨r, hr⟩ : ∃ r, r = (stepR (first, last) k).2 := ⟨_, rfl⟩
 rw [← hr]
 unfold stepR at hr
 simp only at hr
 by_cases c1 : k.size ≤ 16
 case neg =>
  have d1 : decide (k.size ≤ 16) = false := zK c1
  have d1b : decide ((k.size : Int) ≤ 16) = false := zK (by omega)
  rw [d1, Bool.false_and] at hr
  subst hr
  clear c1
  go_enter Try.func71, Try.ntmps71
  go_wp2_with fail
  go_ret
  exact ⟨rfl, rfl⟩
 case pos =>
 have d1 : decide (k.size ≤ 16) = true := zJ c1
 have d1b : decide ((k.size : Int) ≤ 16) = true := zJ (by omega)
 rw [d1, Bool.true_and] at hr
 clear c1
 rcases first with _ | _
 case true =>
  rw [Bool.true_or] at hr
  subst hr
  go_enter Try.func71, Try.ntmps71
  go_wp2_with fail
  go_ret
  exact ⟨rfl, rfl⟩
 case false =>
  rw [Bool.false_or] at hr
  subst hr
  go_enter Try.func71, Try.ntmps71
  go_wp2_with fail
  go_ret
  exact ⟨rfl, rfl⟩

/-! ### zz_root2: a text by hand -/
-- uses blk_cells3 NS heap90 ascK l3Of_any
structure RJ (m0 gL gF : Nat) (W7 : World) (s : Bool × ByteArray) (W : World) : Prop where
 l : W.heap[gL]? = some (.cells #[.string s.2] 9 (0, 0))
 f : W.heap[gF]? = some (.cells #[.bool s.1] 4 (0, 0))
 b : Below gL W7 W
theorem RJ_wj {m0 gL gF : Nat} {W7 : World} (hg : gF = gL + 1) : WJ (RJ m0 gL gF W7) stepR 71 #[.pointer (some ⟨gF, 0, none⟩), .pointer (some ⟨gL, 0, none⟩)] W7 (fun k => k < gL) where
 fn := ⟨_, Try.func71, by kernel_rfl, by kernel_rfl⟩
 call := fun s k W h => by
  refine (rootC_any (k := k) h.f h.l (by omega)).mono ?_
  rintro e W' ⟨rfl, rfl⟩
  refine ⟨rfl, ?_, ?_, ?_⟩
  ·exact blk_far (blk_put h.l 0 (.string k) rfl) (p := ⟨gF, 0, none⟩) (show gL ≠ gF by omega) (.bool false)
  ·exact blk_put (blk_far h.f (p := ⟨gL, 0, none⟩) (show gF ≠ gL by omega) (.string k)) 0 (.bool false) rfl
  ·exact (show Below gL W7 (W.setCell ⟨gL, 0, none⟩ (.string k)) from h.b.setCell (zY _) _).setCell (by show gL ≤ gF; omega) _
 kept := fun s W h k hk _ => h.b.block k hk
def RootEnd (ns : List S90) (W : World) (e : Ending) (W' : World) : Prop := Below W.heap.size W W' ∧ ((e = .returned .nilIface ∧ ∀ d t, ¬ okT ns d t) ∨ ∃ d t tp b, okT ns d t ∧ e = .returned (ifP tp b) ∧ Kd.FK (kN d) W' (fun _ => True) t [ifP tp b])
/-- As RootEnd; the tree lies in blocks below n0 and in new ones. -/
def RootEndN (n0 : Nat) (ns : List S90) (W : World) (e : Ending) (W' : World) : Prop := Below W.heap.size W W' ∧ ((e = .returned .nilIface ∧ ∀ d t, ¬ okT ns d t) ∨ ∃ d t tp b, okT ns d t ∧ e = .returned (ifP tp b) ∧ Kd.FK (kN d) W' (fun k => k < n0 ∨ W.heap.size ≤ k) t [ifP tp b])
set_option maxHeartbeats 8000000 in
set_option maxRecDepth 100000 in
theorem root_at (n0 : Nat) (ns : List S90) (hl : ns.length ≤ 1048576) (A : Option Addr) (c : Nat) (W : World) (hF : Kd.F k90 W (fun k => k < n0) A ns.length ns) (hn0 : n0 ≤ W.heap.size) (hc : ns.length ≤ c) :
  Calls Try.prog 46 #[.agg #[.slice A ns.length c]] W fun e W' => RootEndN n0 ns W e W' := by
 have hb0 : Below W.heap.size W (W.alloc (.cells #[.slice A ns.length c] 24)) := below_alloc (zZ _ _) _
 have K1 := zA (blk_new W (.cells #[.slice A ns.length c] 24))
 have HZ := zA (show (W.alloc (.cells #[.slice A ns.length c] 24)).heap.size = W.heap.size + 1 by simp)
 have HF := zA (yF hF hb0)
 have HB := zA hb0
 have HP := zA (And.intro hl hc)
 have hu24 := Try.underlying24
 have hu104 := Try.underlying104
 have hu67 := Try.underlying67
 have HN0 := zA hn0
 clear hb0 hl hF hc hn0
 go_enter Try.func46, Try.ntmps46
 go_upto_region 1 with (fail)
 generalize (W.alloc (.cells #[.slice A ns.length c] 24)) = W0 at *
 obtain ⟨m0, hm0⟩ : ∃ m0, m0 = W.heap.size := ⟨_, rfl⟩
 rw [← hm0] at K1 HB HZ HN0 ⊢
 have HN := zA hm0
 clear hm0
 have x0 : W0.cell? ⟨m0, 0, none⟩ = some (.slice A ns.length c) := (blk_cell K1.out 0).trans rfl
 by_cases c2 : 5000 < ns.length
 case pos =>
  have g2 : decide (5000 < ns.length) = true := zJ c2
  have g2b : decide (5000 < (ns.length : Int)) = true := zJ (by omega)
  have hno : ∀ d t, ¬ okT ns d t := fun d t h => by have := h.2.2.1; omega
  clear c2
  go_wp2_with fail
  go_ret
  exact ⟨by rw [← HN.out]; exact HB.out, Or.inl ⟨rfl, hno⟩⟩
 case neg =>
 have g2 : decide (5000 < ns.length) = false := zK c2
 have g2b : decide (5000 < (ns.length : Int)) = false := zK (by omega)
 have HLN := zA (show ns.length ≤ 5000 by omega)
 clear c2
 go_upto_region 4 with (fail)
 have hb1 : Below W0.heap.size W0 (W0.alloc (.cells #[.slice A ns.length c, .int .i64 0] 104)) := below_alloc (zZ _ _) _
 have KR := zA (blk_new W0 (.cells #[.slice A ns.length c, .int .i64 0] 104))
 have HZ1 := zA (show (W0.alloc (.cells #[.slice A ns.length c, .int .i64 0] 104)).heap.size = m0 + 2 by simp [HZ.out])
 rw [HZ.out] at KR ⊢
 replace K1 := zA (zH K1.out hb1)
 replace HF := zA (yF HF.out hb1)
 replace HB := zA (below_lo HB.out hb1 (by have := HZ.out; omega))
 generalize (W0.alloc (.cells #[.slice A ns.length c, .int .i64 0] 104)) = W1 at *
 clear hb1 x0 g2 g2b HZ
 go_wp2_with fail
 refine (node_any n0 ns HP.out.1 31 0 rfl (Int.le_refl 0) true rfl 0 (Int.le_refl 0) A c (m0 + 1) W1 HF.out (by have := HN0.out; omega) KR.out).mono ?_
 rintro e W5 ⟨hs, hend⟩
 replace K1 := zA ((hs.b.block m0 (by omega)).trans K1.out)
 replace HB := zA (below_same HB.out (below_less hs.b (by omega)))
 have HZ5 := zA (show m0 + 2 ≤ W5.heap.size by rw [← HZ1.out]; exact hs.b.size)
 clear hs KR HF
 have x0 : W5.cell? ⟨m0, 0, none⟩ = some (.slice A ns.length c) := (blk_cell K1.out 0).trans rfl
 rcases hend with ⟨hr, rfl⟩ | ⟨x, d, after, tp, b, hr, rfl, hK, hkg⟩
 ·have hno : ∀ d t, ¬ okT ns d t := fun d t h => by have := h.read; rw [hr] at this; cases this
  have hnn := eql_nn
  clear hr
  go_wp2_with fail
  go_ret
  exact ⟨by rw [← HN.out]; exact HB.out, Or.inl ⟨rfl, hno⟩⟩
 ·have hen : ∀ w, (binOp .eql 67 (.iface tp (.pointer (some ⟨b, 0, none⟩))) .nilIface).run Try.prog w = .ok (.bool false) w := fun w => eql_nil w tp _
  unfold ifP
  have r1 : W5.cell? ⟨m0 + 1, 1, none⟩ = some (.int .i64 after) := (blk_cell hkg 1).trans rfl
  have hsd := readD_sound 31 true 0 x d after (by simpa using hr)
  have HR := zA hr
  have HK := zA (yD (ok' := fun k => (k < n0 ∨ m0 ≤ k) ∧ k < W5.heap.size) (Kd.FK_bound hK) (fun k hk => ⟨by have := hk.1; have := HZ1.out; omega, hk.2⟩))
  clear hr hK hkg
  by_cases ca : after = (ns.length : Int)
  case neg =>
   have cab : (after != (ns.length : Int)) = true := by simp [ca]
   have hno : ∀ d t, ¬ okT ns d t := fun d2 t2 h => by
    have := h.read
    rw [HR.out] at this
    simp only [Option.some.injEq, Prod.mk.injEq] at this
    exact ca this.2.2
   clear ca hsd
   go_wp2_with fail
   go_ret
   exact ⟨by rw [← HN.out]; exact HB.out, Or.inl ⟨rfl, hno⟩⟩
  case pos =>
  have cab : (after != (ns.length : Int)) = false := by simp [ca]
  have hfl : flatD d x 0 = ns := seg_full (by simpa using hsd.2.1) (by have h1 := hsd.2.2; simp only [Int.natCast_zero, Nat.zero_add] at h1; rw [ca] at h1; exact (Int.ofNat.inj h1).symm)
  have HG := zA (And.intro hsd.1 hfl)
  clear hsd hfl ca
  go_upto_region 8 with (fail)
  have hb7 : Below W5.heap.size W5 ((W5.alloc (.cells #[.string ⟨#[]⟩] 9)).alloc (.cells #[.bool true] 4)) := below_alloc (below_alloc (zZ _ _) _) _
  have KL := zA (zF (blk_new W5 (.cells #[.string ⟨#[]⟩] 9)) (.cells #[.bool true] 4))
  have KF := zA (blk_new (W5.alloc (.cells #[.string ⟨#[]⟩] 9)) (.cells #[.bool true] 4))
  rw [show (W5.alloc (.cells #[.string ⟨#[]⟩] 9)).heap.size = W5.heap.size + 1 by simp] at KF
  replace HB := zA (below_lo HB.out hb7 (by have := HZ5.out; omega))
  replace HK := zA (yE HK.out hb7)
  generalize ((W5.alloc (.cells #[.string ⟨#[]⟩] 9)).alloc (.cells #[.bool true] 4)) = W7 at *
  obtain ⟨gL, hgL⟩ : ∃ gL, gL = W5.heap.size := ⟨_, rfl⟩
  rw [← hgL] at KL KF HK HZ5 ⊢
  clear hb7 hgL hen r1 x0 cab
  have HJ := zA (RJ.mk (m0 := m0) (gF := gL + 1) (s := (true, ⟨#[]⟩)) KL.out KF.out (zZ gL W7))
  go_wp2_with fail
  refine (walk_any (RJ_wj (m0 := m0) (W7 := W7) (gL := gL) rfl) d x _ (yD HK.out (fun _ hk => hk.2)) (true, ⟨#[]⟩) W7 HJ.out).mono ?_
  have HAS := zA (asc_run (keysD d x) ⟨#[]⟩)
  obtain ⟨q, hq⟩ : ∃ q, q = runK stepR (keysD d x) (true, ⟨#[]⟩) := ⟨_, rfl⟩
  rw [← hq] at HAS ⊢
  clear hq
  rintro e W8 ⟨rfl, hj⟩
  replace HB := zA (below_same HB.out (below_less hj.b (by have := HZ5.out; omega)))
  have HK8 := zA (yD (ok' := fun k => k < n0 ∨ m0 ≤ k) (Kd.FK_step HK.out (fun k hk _ => hj.b.block k hk.2)) (fun _ hk => hk.1))
  clear hj HJ KL KF HK K1
  obtain ⟨s2, ans⟩ := q
  rcases ans with _ | _
  case false =>
   have hno : ∀ d t, ¬ okT ns d t := fun d2 t2 h => by
    have h1 := h.read
    rw [HR.out] at h1
    simp only [Option.some.injEq, Prod.mk.injEq] at h1
    obtain ⟨rfl, rfl, _⟩ := h1
    have := HAS.out.2 h.2.2.2
    cases this
   go_wp2_with fail
   go_ret
   exact ⟨by rw [← HN.out]; exact HB.out, Or.inl ⟨rfl, hno⟩⟩
  case true =>
   have hok : okT ns d x := ⟨HG.out.1, HG.out.2, HLN.out, HAS.out.1 rfl⟩
   go_wp2_with fail
   go_ret
   exact ⟨by rw [← HN.out]; exact HB.out, Or.inr ⟨d, x, tp, b, hok, rfl, by rw [← HN.out]; exact HK8.out⟩⟩
theorem root_any (ns : List S90) (hl : ns.length ≤ 1048576) (A : Option Addr) (c : Nat) (W : World) (hC : Kd.C k90 W A ns.length ns) (hc : ns.length ≤ c) :
   Calls Try.prog 46 #[.agg #[.slice A ns.length c]] W fun e W' => RootEnd ns W e W' :=
 (root_at W.heap.size ns hl A c W (Kd.C_F heap90 hC) (zY _) hc).mono fun _ _ h => ⟨h.1, h.2.imp id (fun ⟨d, t, tp, b, h1, h2, h3⟩ => ⟨d, t, tp, b, h1, h2, yD h3 (fun _ _ => trivial)⟩)⟩

/-! ### zz_valid3: a text by hand -/
-- uses results_two RootEnd OfEnd eql_nil
noncomputable def validB (ns : List S90) : Bool := iteB (∃ d t, okT ns d t) true
noncomputable def m_ValidTree.f (_k : Nat) (l : List S90) : Option Bool := if l.length ≤ 1048576 ∧ l.all (fun x => decide (x.f2.length ≤ 1048576)) = true then some (validB l) else none
theorem kids_bound {l : List S90} (h : l.all (fun x => decide (x.f2.length ≤ 1048576)) = true) (i : Int) : (rd_T90 l i).f2.length ≤ 1048576 := by
 unfold rd_T90
 rw [List.getD_eq_getElem?_getD]
 rcases hx : l[i.toNat]? with _ | x
 ·exact Nat.zero_le _
 ·have := List.all_eq_true.1 h x (List.mem_of_getElem? hx)
  simpa using this
end Go.Proofs.Ytfjcfklgnlmjjaa.PB
