-- Made by this session's programs out of the translation and of its own texts.
import Derived.Test.YtfjcfklgnlmjjaaMFnExactTreeInsertg
namespace Go.Proofs.Ytfjcfklgnlmjjaa.PB
open Go.RowKit Go.Proofs.YtfjcfklgnlmjjaaW.PrintWords Go.Proofs.YtfjcfklgnlmjjaaW.PrintLast Go.Proofs.YtfjcfklgnlmjjaaW.PrintMore
attribute [local go_sem] max2_int min2_int max_two min_two max_three min_three max_four min_four   -- for this text's walks alone
set_option linter.unusedVariables false
set_option linter.unusedSimpArgs false

/-! ### zzy_zinsert: a text by hand -/
-- uses ta_00 ta_S0 ta_SS kN_open0 kN_openS kidsG R_Fb
-- import Derived.WalkLawsBesides
def ins.gT10 : Bool × List (List Nat × List Nat) := (true, [([], []), ([0], [0]), ([1], [1]), ([2], [2]), ([3], [3]), ([], []), ([], []), ([6], [6]), ([], []), ([8], [8]), ([9], [9]), ([10], [10]), ([], []), ([11, 12], [11, 12]), ([13], [13]), ([], []), ([14, 15, 4], [14, 15]), ([4, 5, 7, 16, 16], [4, 5, 7, 16]), ([17, 17], [17]), ([18], [18]), ([19, 18, 0, 1, 2, 3, 4, 5, 6, 7, 8, 9, 10, 11, 12, 13, 14, 15, 16, 17, 18, 19], [19])])
def ins.gB10 : List Nat := [0, 1, 3, 7, 15, 0, 0, 64, 0, 256, 768, 1792, 0, 7936, 16128, 0, 65311, 131071, 262143, 524287, 1048575]
theorem ins.gtab10 : rtab .any (opsOf Try.f57 10) = ins.gT10 := by kernel_rfl
theorem ins.gbits10 : waitsOk ins.gT10.2 ins.gB10 = true := by kernel_rfl
theorem N_one {d : Nat} {W : World} {base : Nat} {ok okx : Nat → Prop} {u : Value} {x : S56} (hK : Kd.FK (kN d) W okx x [u]) (hu : u.oneCell' = true) (hok : ∀ k, okx k → ok k) (hfresh : ok W.heap.size) (hb : base ≤ W.heap.size) :
  Kd.N (kN d) 67 (W.alloc (.cells #[u] 67)) base ok (.slice (some ⟨W.heap.size, 0, none⟩) 1 1) [x] :=
 RB_N (xs := [x]) (us := [u]) (tail := []) ⟨blk_new W _, hb, rfl, by decide, fun q hq => by rw [List.mem_singleton.1 hq]; exact hu⟩ rfl hfresh (fun j y q hy hq => by
  rcases j with _ | j
  ·simp only [List.getElem?_cons_zero, Option.some.injEq] at hy hq
   subst hy hq
   exact yD (yE (Kd.FK_bound hK) (below_alloc (zZ _ _) _)) (fun k hk => ⟨hok k hk.1, by have := hk.2; omega⟩)
  ·simp at hy)
theorem N_two {d : Nat} {W : World} {base : Nat} {ok okx : Nat → Prop} {u1 u2 : Value} {x1 x2 : S56} (hK1 : Kd.FK (kN d) W okx x1 [u1]) (hK2 : Kd.FK (kN d) W okx x2 [u2]) (hu1 : u1.oneCell' = true) (hu2 : u2.oneCell' = true) (hok : ∀ k, okx k → ok k) (hfresh : ok W.heap.size) (hb : base ≤ W.heap.size) :
  Kd.N (kN d) 67 (W.alloc (.cells #[u1, u2] 67)) base ok (.slice (some ⟨W.heap.size, 0, none⟩) 2 2) [x1, x2] :=
 RB_N (xs := [x1, x2]) (us := [u1, u2]) (tail := []) ⟨blk_new W _, hb, rfl, by decide, fun q hq => by
   simp only [List.mem_cons, List.not_mem_nil, or_false] at hq
   rcases hq with rfl | rfl
   ·exact hu1
   ·exact hu2⟩ rfl hfresh (fun j y q hy hq => by
  rcases j with _ | j
  ·simp only [List.getElem?_cons_zero, Option.some.injEq] at hy hq
   subst hy hq
   exact yD (yE (Kd.FK_bound hK1) (below_alloc (zZ _ _) _)) (fun k hk => ⟨hok k hk.1, by have := hk.2; omega⟩)
  ·rcases j with _ | j
   ·simp only [List.getElem?_cons_succ, List.getElem?_cons_zero, Option.some.injEq] at hy hq
    subst hy hq
    exact yD (yE (Kd.FK_bound hK2) (below_alloc (zZ _ _) _)) (fun k hk => ⟨hok k hk.1, by have := hk.2; omega⟩)
   ·simp at hy)
def InsEnd (d : Nat) (ok : Nat → Prop) (W : World) (l : List S56) (e : Ending) (W' : World) : Prop :=
 ∃ A c, e = .returned (.slice A l.length c) ∧ Kd.N (kN d) 67 W' W.heap.size (fun k => ok k ∨ W.heap.size ≤ k) (.slice A l.length c) l ∧ Below W.heap.size W W'
set_option maxHeartbeats 16000000 in
set_option maxRecDepth 100000 in
theorem insert_any (key : ByteArray) : ∀ (d : Nat) (r : Bool) (t : S56) (v : Value) (W : World) (ok : Nat → Prop) (_ : Kd.FK (kN d) W ok t [v]) (_ : goodD d r t) (_ : srt (keysD d t)) (_ : d ≤ 13),
   Calls Try.prog 57 #[v, .string key] W fun e W' => InsEnd d ok W (insD key d t) e W' := by
 intro d
 induction d with
 | zero =>
   intro r t v W ok hK hg hs hd
   obtain ⟨n, A, c, ke, kl, kb, kF⟩ := kN_open0 hK
   have hv : v = ifP 58 n := by simpa using ke
   subst hv
   unfold ifP
   have x1 : W.cell? ⟨n, 1, none⟩ = some (.slice A t.f1.length c) := (blk_cell kl.2.2.1 1).trans rfl
   have hu2 := Try.underlying93
   have hta := ta_00
   have h4 := hg.2.2.1
   obtain ⟨kk, hkk⟩ := (bs_ev2 (l := t.f1) hs (by omega) key).rounds
   have HBS := zA hkk
   have HX := zA kl.2.2.1
   have HF := zA kF
   have HL := zA (And.intro kl.2.2.2 h4)
   have HCN := zA (cnt_le key t.f1)
   obtain ⟨ci, hci⟩ : ∃ ci, ci = cntLt key t.f1 := ⟨_, rfl⟩
   rw [← hci] at HBS HCN
   have HCI := zA hci
   clear ke kl kb kF hK hkk hs hg h4 hci hd
   go_enter Try.func57, Try.ntmps57
   go_wp2_with fail
   refine (slices_BinarySearch_string_string.calls kk _ _ _ _ _ _ _ (Kd.F_now HF.out) HL.out.1 HBS.out).mono ?_
   rintro e W1 ⟨rfl, hdr⟩
   have HB1 := zA hdr.below
   have HX1 := zA (zH HX.out HB1.out)
   have HF1 := zA (yF HF.out HB1.out)
   clear hdr x1
   have x1 : W1.cell? ⟨n, 1, none⟩ = some (.slice A t.f1.length c) := (blk_cell HX1.out 1).trans rfl
   go_wp2_with fail
   refine (cloneS_any A c t.f1 W1 (Kd.F_now HF1.out) HL.out.1 (by have := HL.out.2; omega)).mono ?_
   rintro e W2 ⟨A2, c2, rfl, hR, hb⟩
   have HR2 := zA hR
   have HB2 := zA (below_lo HB1.out hb HB1.out.size)
   have HZ2 := zA (yI HB1.out.size hb.size)
   have HLT := zA (Kd.R_lt hR)
   clear hR hb x1
   go_wp2_with fail
   have hba : Below W2.heap.size W2 (W2.alloc (.cells #[.string key] 9)) := below_alloc (zZ _ _) _
   refine (insertS_any W.heap.size W (W2.alloc (.cells #[.string key] 9)) A2 c2 t.f1 ci key W2.heap.size (Kd.R_lower (yA (Kd.R_alloc HR2.out _) (fun _ _ => trivial)) HB1.out.size) (blk_new W2 _) (fun he => by have := HLT.out _ he.symm; omega) HCN.out (by have := HL.out.2; omega) (yI HZ2.out hba.size) (below_lo HB2.out hba HZ2.out)).mono ?_
   rintro e W3 ⟨A3, c3, rfl, hR3, hb3⟩
   have hil : (t.f1.take ci ++ key :: t.f1.drop ci).length = t.f1.length + 1 := by have := HCN.out; simp; omega
   obtain ⟨l, hl⟩ : ∃ l, l = t.f1.take ci ++ key :: t.f1.drop ci := ⟨_, rfl⟩
   rw [← hl] at hR3 hil
   have HIL := zA hil
   have HLI := zA (show l = insL key t.f1 by rw [hl, HCI.out]; rfl)
   rw [← hil] at hR3 ⊢
   have HR3 := zA hR3
   have HB3 := zA hb3
   clear hil hl hR3 hb3 hba
   go_wp2_with fail
   refine (newLeaf_any A3 l.length c3 W3).mono ?_
   rintro e W5 ⟨b', rfl, hbs, hbk, hbb⟩
   have HB5 := zA (below_lo HB3.out hbb HB3.out.size)
   have HK5 := zA (show Kd.FK (kN 0) W5 (fun k => ok k ∨ W.heap.size ≤ k) (⟨true, l, []⟩ : S56) [ifP 58 b'] from kN_mk0 (c := c3) (A := A3) ⟨rfl, rfl, hbk, (Kd.R_reads' HR3.out).2.1⟩ (Or.inr (yI HB3.out.size hbs)) (Kd.F_mono (yF (R_Fb HR3.out) hbb) (fun k hk => Or.inr hk)))
   have HS5 := zA (show insD key 0 t = splitD 0 (⟨true, l, []⟩ : S56) by rw [HLI.out]; rfl)
   have H5 := zA (show sizeD 0 (⟨true, l, []⟩ : S56) ≤ 5 by show l.length ≤ 5; rw [HIL.out]; have := HL.out.2; omega)
   have HKG := zA (show kidsG 0 (⟨true, l, []⟩ : S56) from trivial)
   clear hbs hbk hbb
   go_upto_region 11 with (fail)
   generalize (⟨true, l, []⟩ : S56) = T at *
   go_wp2_with fail
   refine (weight_any HK5.out).mono ?_
   rintro e W6 ⟨rfl, rfl⟩
   by_cases c4 : 4 < sizeD 0 T
   ·have d1 : decide (4 < sizeD 0 T) = true := zJ c4
    have d2 : decide (((4 : Nat) : Int) < ((sizeD 0 T : Nat) : Int)) = true := zJ (by omega)
    have d3 : decide ((4 : Int) < ((sizeD 0 T : Nat) : Int)) = true := zJ (by omega)
    have HSP := zA (show insD key (0) t = [partD (0) T 0 3, partD (0) T 3 5] by rw [HS5.out]; unfold splitD; rw [if_neg (by omega)])
    have H55 := zA (show sizeD 0 T = 5 by have := H5.out; omega)
    clear c4
    go_wp2_with fail
    refine (cut_any (a := 0) (b := 3) HK5.out (by decide) (by rw [H55.out]; decide) H5.out HKG.out (by decide)).mono ?_
    rintro e W7 ⟨tp1, b1, rfl, hK7, hb7⟩
    have HK7 := zA hK7
    have HK57 := zA (yE HK5.out hb7)
    have HB7 := zA (below_lo HB5.out hb7 HB5.out.size)
    have HZ7 := zA (And.intro HB5.out.size hb7.size)
    clear hK7 hb7
    unfold ifP
    go_wp2_with fail
    refine (cut_any (a := 3) (b := 5) HK57.out (by decide) (by rw [H55.out]; decide) H5.out HKG.out (by decide)).mono ?_
    rintro e W8 ⟨tp2, b2, rfl, hK8, hb8⟩
    have HK8 := zA (yD (ok' := fun k => ok k ∨ W.heap.size ≤ k) hK8 (fun k hk => hk.elim id (fun h => Or.inr (by have := HZ7.out; omega))))
    have HK78 := zA (yD (ok' := fun k => ok k ∨ W.heap.size ≤ k) (yE HK7.out hb8) (fun k hk => hk.elim id (fun h => Or.inr (by have := HZ7.out; omega))))
    have HB8 := zA (below_lo HB7.out hb8 HB7.out.size)
    clear hK8 hb8 HK7 HB7 HK57
    unfold ifP
    go_wp2_with fail
    go_ret
    have hN := N_two (base := W.heap.size) (ok := fun k => ok k ∨ W.heap.size ≤ k) HK78.out HK8.out rfl rfl (fun _ hk => hk) (Or.inr HB8.out.size) HB8.out.size
    rw [HSP.out]
    exact ⟨_, _, rfl, hN, HB8.out.alloc HB8.out.size _⟩
   ·have d1 : decide (4 < sizeD 0 T) = false := zK c4
    have d2 : decide (((4 : Nat) : Int) < ((sizeD 0 T : Nat) : Int)) = false := zK (by omega)
    have d3 : decide ((4 : Int) < ((sizeD 0 T : Nat) : Int)) = false := zK (by omega)
    have HSP := zA (show insD key (0) t = [T] by rw [HS5.out]; unfold splitD; rw [if_pos (by omega)])
    clear c4
    go_wp2_with fail
    go_ret
    have hN := N_one (base := W.heap.size) (ok := fun k => ok k ∨ W.heap.size ≤ k) HK5.out rfl (fun _ hk => hk) (Or.inr HB5.out.size) HB5.out.size
    rw [HSP.out]
    exact ⟨_, _, rfl, hN, HB5.out.alloc HB5.out.size _⟩
 | succ d ih =>
   intro r t v W ok hK hg hs hd
   obtain ⟨b, A, c, ke, kl, kb, kF⟩ := kN_openS hK
   have hv : v = ifP 79 b := by simpa using ke
   subst hv
   unfold ifP
   have x1 : W.cell? ⟨b, 1, none⟩ = some (.slice A t.f2.length c) := (blk_cell kl.2.2.1 1).trans rfl
   have hu2 := Try.underlying87
   have hta := ta_S0
   have hta2 := ta_SS
   have h0 : 0 < t.f2.length := by have := hg.2.2.1; omega
   obtain ⟨at_, hat⟩ : ∃ at_, at_ = chI d key t.f2 := ⟨_, rfl⟩
   have hal : at_ < t.f2.length := by rw [hat]; exact chI_lt h0
   have HCH := zA (child_any kl kF hg key)
   rw [← hat] at HCH
   replace kF := Kd.F_mono (ok' := fun k => ok k ∧ k < W.heap.size) (Kd.F_bound kF) (fun k hk => hk)
   obtain ⟨ad, v2, rfl, hx, hK2, _⟩ := at_N kF at_ hal
   rw [rd56_at _ _ hal] at hK2
   have hgk := hg.2.2.2.2 _ (List.getElem_mem hal)
   have hsk := srt_kid (show srt ((t.f2.map (keysD d)).flatten) from hs) (List.getElem_mem hal)
   obtain ⟨kid, hkid⟩ : ∃ kid, kid = t.f2[at_]'hal := ⟨_, rfl⟩
   rw [← hkid] at hK2 hgk hsk
   have HINS := zA (show insD key (d + 1) t = splitD (d + 1) ⟨false, [], t.f2.take at_ ++ insD key d kid ++ t.f2.drop (at_ + 1)⟩ by
    rw [hkid]
    subst hat
    show splitD (d + 1) ⟨false, [], t.f2.take (chI d key t.f2) ++ insD key d (rd_T56 t.f2 ((chI d key t.f2 : Nat) : Int)) ++ t.f2.drop (chI d key t.f2 + 1)⟩ = _
    rw [rd56_at _ _ hal])
   have HX := zA kl.2.2.1
   have HX2 := zA hx
   have HF := zA kF
   have HL := zA (And.intro kl.2.2.2 (And.intro h0 hg.2.2.2.1))
   have HAL := zA hal
   have HG := zA hg.2.2.2.2
   have HK2 := zA hK2
   have HGK := zA hgk
   have HSK := zA hsk
   have HD := zA hd
   have HKB := zA kb
   have IH := zA ih
   have p5 : (0 ≤ (at_ : Int)) = True := eq_true (by omega)
   have q5 : ((at_ : Int) < (t.f2.length : Int)) = True := eq_true (by omega)
   have q6 : (at_ < t.f2.length) = True := eq_true hal
   have hw1 : IntKind.i64.wrap ((at_ : Int) + 1) = ((at_ + 1 : Nat) : Int) := by rw [IntKind.wrap_i64]; have := hg.2.2.2.1; omega
   have hw2 : wrap64 ((at_ : Int) + 1) = ((at_ + 1 : Nat) : Int) := by unfold wrap64; have := hg.2.2.2.1; omega
   have HW1 := zA (And.intro hw1 hw2)
   clear ke kl kb kF hK hg hs hd ih h0 hat hx hK2 hgk hsk hkid hal
   go_enter Try.func57, Try.ntmps57
   go_wp2_with fail
   refine HCH.out.mono ?_
   rintro e W1 ⟨rfl, rfl⟩
   clear HCH
   go_upto_region 10 with (fail)
   clear hw1 hw2 x1
   refine start_ (n := 21) (S := fun w' => w'.cell? ⟨b, 1, none⟩ = some (.slice (some ad) t.f2.length c) ∧ w'.cell? (ad.add at_) = some v2) (ds := []) #[false, false, false, false, false, false, false, false, false, false, false, false, false, false, false, false, false, false, false, false, false] (by kernel_rfl) rfl rfl ⟨(blk_cell HX.out 1).trans rfl, HX2.out⟩ (fun hHeld => ?_); refine with_tabW ins.gtab10 ins.gbits10 (fun HT_ HW_ => ?_)
   have HB0 := zA (below_drew (zZ W1.heap.size W1))
   have HZ0 := zA (show W1.drew.heap.size = W1.heap.size from rfl)
   refine pure_ (i := 0) (N := some 41) (v := ?_) (a' := ?_) #[true, false, false, false, false, false, false, false, false, false, false, false, false, false, false, false, false, false, false, false, false] rfl rfl (yM HT_.out (by kernel_rfl)) (fun _ _ _ h => h) (Or.inl ⟨by rfl, ?_⟩) ?_ ?_
   rotate_left
   ·intro w'
    go_simp
    with_reducible rfl
   rotate_left
   ·simp only [Act.put, zN, zO, zP, i64_w, i32_w]
    rfl
   refine pure_ (i := 1) (N := some 42) (v := ?_) (a' := ?_) #[true, true, false, false, false, false, false, false, false, false, false, false, false, false, false, false, false, false, false, false, false] rfl rfl (yM HT_.out (by kernel_rfl)) (fun _ _ _ h => h) (Or.inl ⟨by rfl, ?_⟩) ?_ ?_
   rotate_left
   ·intro w'
    go_simp
    with_reducible rfl
   rotate_left
   ·simp only [Act.put, zN, zO, zP, i64_w, i32_w]
    rfl
   refine pure_ (i := 2) (N := some 43) (v := ?_) (a' := ?_) #[true, true, true, false, false, false, false, false, false, false, false, false, false, false, false, false, false, false, false, false, false] rfl rfl (yM HT_.out (by kernel_rfl)) (fun _ _ _ h => h) (Or.inl ⟨by rfl, ?_⟩) ?_ ?_
   rotate_left
   ·intro w'
    go_simp
    with_reducible rfl
   rotate_left
   ·simp only [Act.put, zN, zO, zP, i64_w, i32_w]
    rfl
   refine take_ (i := 3) (N := some 44) (v := ?_) (a' := ?_) #[true, true, true, true, false, false, false, false, false, false, false, false, false, false, false, false, false, false, false, false, false] rfl rfl (yL HT_.out HW_.out (by kernel_rfl)) (fun _ _ _ h => h) (Or.inl ⟨by rfl, ?_⟩) hHeld ?_ ?_
   rotate_left
   ·rintro w' ⟨s0, s1⟩
    go_simp
    with_reducible rfl
   rotate_left
   ·simp only [Act.put, zN, zO, zP, i64_w, i32_w]
    rfl
   refine pure_ (i := 5) (N := some 46) (v := ?_) (a' := ?_) #[true, true, true, true, false, true, false, false, false, false, false, false, false, false, false, false, false, false, false, false, false] rfl rfl (yM HT_.out (by kernel_rfl)) (fun _ _ _ h => h) (Or.inl ⟨by rfl, ?_⟩) ?_ ?_
   rotate_left
   ·intro w'
    go_simp
    with_reducible rfl
   rotate_left
   ·simp only [Act.put, zN, zO, zP, i64_w, i32_w]
    rfl
   refine pure_ (i := 6) (N := some 47) (v := ?_) (a' := ?_) #[true, true, true, true, false, true, true, false, false, false, false, false, false, false, false, false, false, false, false, false, false] rfl rfl (yM HT_.out (by kernel_rfl)) (fun _ _ _ h => h) (Or.inl ⟨by rfl, ?_⟩) ?_ ?_
   rotate_left
   ·intro w'
    go_simp
    with_reducible rfl
   rotate_left
   ·simp only [Act.put, zN, zO, zP, i64_w, i32_w]
    rfl
   refine pure_ (i := 7) (N := some 48) (v := ?_) (a' := ?_) #[true, true, true, true, false, true, true, true, false, false, false, false, false, false, false, false, false, false, false, false, false] rfl rfl (yM HT_.out (by kernel_rfl)) (fun _ _ _ h => h) (Or.inl ⟨by rfl, ?_⟩) ?_ ?_
   rotate_left
   ·intro w'
    go_simp
    with_reducible rfl
   rotate_left
   ·simp only [Act.put, zN, zO, zP, i64_w, i32_w]
    rfl
   refine pure_ (i := 8) (N := some 49) (v := ?_) (a' := ?_) #[true, true, true, true, false, true, true, true, true, false, false, false, false, false, false, false, false, false, false, false, false] rfl rfl (yM HT_.out (by kernel_rfl)) (fun _ _ _ h => h) (Or.inl ⟨by rfl, ?_⟩) ?_ ?_
   rotate_left
   ·intro w'
    go_simp
    with_reducible rfl
   rotate_left
   ·simp only [Act.put, zN, zO, zP, i64_w, i32_w]
    rfl
   refine pure_ (i := 9) (N := some 50) (v := ?_) (a' := ?_) #[true, true, true, true, false, true, true, true, true, true, false, false, false, false, false, false, false, false, false, false, false] rfl rfl (yM HT_.out (by kernel_rfl)) (fun _ _ _ h => h) (Or.inl ⟨by rfl, ?_⟩) ?_ ?_
   rotate_left
   ·intro w'
    go_simp
    with_reducible rfl
   rotate_left
   ·simp only [Act.put, zN, zO, zP, i64_w, i32_w]
    rfl
   refine pure_ (i := 10) (N := some 51) (v := ?_) (a' := ?_) #[true, true, true, true, false, true, true, true, true, true, true, false, false, false, false, false, false, false, false, false, false] rfl rfl (yM HT_.out (by kernel_rfl)) (fun _ _ _ h => h) (Or.inl ⟨by rfl, ?_⟩) ?_ ?_
   rotate_left
   ·intro w'
    go_simp
    with_reducible rfl
   rotate_left
   ·simp only [Act.put, zN, zO, zP, i64_w, i32_w]
    rfl
   refine take_ (i := 11) (N := some 52) (v := ?_) (a' := ?_) #[true, true, true, true, false, true, true, true, true, true, true, true, false, false, false, false, false, false, false, false, false] rfl rfl (yL HT_.out HW_.out (by kernel_rfl)) (fun _ _ _ h => h) (Or.inl ⟨by rfl, ?_⟩) hHeld ?_ ?_
   rotate_left
   ·rintro w' ⟨s0, s1⟩
    go_simp
    with_reducible rfl
   rotate_left
   ·simp only [Act.put, zN, zO, zP, i64_w, i32_w]
    rfl
   refine pure_ (i := 12) (N := some 53) (v := ?_) (a' := ?_) #[true, true, true, true, false, true, true, true, true, true, true, true, true, false, false, false, false, false, false, false, false] rfl rfl (yM HT_.out (by kernel_rfl)) (fun _ _ _ h => h) (Or.inl ⟨by rfl, ?_⟩) ?_ ?_
   rotate_left
   ·intro w'
    go_simp
    with_reducible rfl
   rotate_left
   ·simp only [Act.put, zN, zO, zP, i64_w, i32_w]
    rfl
   refine pure_ (i := 13) (N := some 54) (v := ?_) (a' := ?_) #[true, true, true, true, false, true, true, true, true, true, true, true, true, true, false, false, false, false, false, false, false] rfl rfl (yM HT_.out (by kernel_rfl)) (fun _ _ _ h => h) (Or.inl ⟨by rfl, ?_⟩) ?_ ?_
   rotate_left
   ·intro w'
    go_simp
    with_reducible rfl
   rotate_left
   ·simp only [Act.put, zN, zO, zP, i64_w, i32_w]
    rfl
   refine take_ (i := 14) (N := some 55) (v := ?_) (a' := ?_) #[true, true, true, true, false, true, true, true, true, true, true, true, true, true, true, false, false, false, false, false, false] rfl rfl (yL HT_.out HW_.out (by kernel_rfl)) (fun _ _ _ h => h) (Or.inl ⟨by rfl, ?_⟩) hHeld ?_ ?_
   rotate_left
   ·rintro w' ⟨s0, s1⟩
    go_simp
    with_reducible rfl
   rotate_left
   ·simp only [Act.put, zN, zO, zP, i64_w, i32_w]
    rfl
   refine pure_ (i := 15) (N := some 56) (v := ?_) (a' := ?_) #[true, true, true, true, false, true, true, true, true, true, true, true, true, true, true, true, false, false, false, false, false] rfl rfl (yM HT_.out (by kernel_rfl)) (fun _ _ _ h => h) (Or.inl ⟨by rfl, ?_⟩) ?_ ?_
   rotate_left
   ·intro w'
    go_simp
    with_reducible rfl
   rotate_left
   ·simp only [Act.put, zN, zO, zP, i64_w, i32_w]
    rfl
   refine one_ (i := 4) (N := some 45) #[true, true, true, true, true, true, true, true, true, true, true, true, true, true, true, true, false, false, false, false, false] rfl rfl (yN HT_.out (by kernel_rfl)) (by decide) (fun K hK => ?_)
   refine goes_ Try.func79 (by kernel_rfl) rfl #[.slice (some ad) t.f2.length c] (by rfl) rfl rfl (by (try simp only [yG, yH, List.map_nil]); first | done | rfl) ?_
   refine (cloneN_any (some ad) c t.f2 W1.drew (yF HF.out HB0.out) HL.out.1 (by have := HL.out.2.2; omega) HL.out.2.1).mono ?_
   rintro e W2 ⟨A2, c2, rfl, hN2, hb2⟩
   refine ⟨_, rfl, ?_⟩
   have HN2 := zA hN2
   have HB2 := zA (below_lo HB0.out hb2 (zY _))
   have HLT2 := zA (Kd.N_lt hN2)
   have HBA2 := zA (Kd.N_base hN2)
   clear hN2
   refine hK.out _ _ ⟨(blk_cell (zH HX.out HB2.out) 1).trans rfl, (HB2.out.cell (block_lt_of_cell HX2.out)).trans HX2.out⟩ (fun hHeld => ?_)
   clear hb2
   clear hK K
   refine norm_ (a' := ?_) ?_ ?_
   rotate_left
   ·show Act.put _ (some 45) _ = _
    simp only [Act.put, zN, zO, zP, i64_w, i32_w]
    rfl
   refine one_ (i := 16) (N := some 57) #[true, true, true, true, true, true, true, true, true, true, true, true, true, true, true, true, true, false, false, false, false] rfl rfl (yN HT_.out (by kernel_rfl)) (by decide) (fun K hK => ?_)
   refine goes_ Try.func57 (by kernel_rfl) rfl #[v2, .string key] (by rfl) rfl rfl (by (try simp only [yG, yH, List.map_nil]); first | done | rfl) ?_
   refine (IH.out false kid v2 W2 _ (yE HK2.out HB2.out) HGK.out HSK.out (by have := HD.out; omega)).mono ?_
   rintro e W3 ⟨A3, c3, rfl, hN3, hb3⟩
   refine ⟨_, rfl, ?_⟩
   have HN3 := zA hN3
   have HB3 := zA (below_lo HB2.out hb3 HB2.out.size)
   have HN23 := zA (Kd.N_below HN2.out hb3)
   have HZ3 := zA (And.intro HB2.out.size hb3.size)
   clear hN3 hb3
   refine hK.out _ _ ⟨(blk_cell (zH HX.out HB3.out) 1).trans rfl, (HB3.out.cell (block_lt_of_cell HX2.out)).trans HX2.out⟩ (fun hHeld => ?_)
   clear hK K
   refine norm_ (a' := ?_) ?_ ?_
   rotate_left
   ·show Act.put _ (some 57) _ = _
    simp only [Act.put, zN, zO, zP, i64_w, i32_w]
    rfl
   refine one_ (i := 17) (N := some 58) #[true, true, true, true, true, true, true, true, true, true, true, true, true, true, true, true, true, true, false, false, false] rfl rfl (yN HT_.out (by kernel_rfl)) (by decide) (fun K hK => ?_)
   have hil : (insD key d kid).length = 1 ∨ (insD key d kid).length = 2 := by
    rcases ins_good key d false kid HGK.out with ⟨x, e, _⟩ | ⟨x, y, e, _, _⟩
    ·rw [e]; exact Or.inl rfl
    ·rw [e]; exact Or.inr rfl
   refine goes_ Try.func78 (by kernel_rfl) rfl #[.slice A2 t.f2.length c2, .int .i64 (at_ : Int), .int .i64 (wrap64 ((at_ : Int) + 1)), .slice A3 (insD key d kid).length c3] (by rfl) rfl rfl (by (try simp only [yG, yH, List.map_nil]); first | done | rfl) ?_
   rw [HW1.out.2]
   refine (replN_any (d := d) W1.heap.size W2.heap.size W1 W3 t.f2 (insD key d kid) (fun k => (ok k ∧ k < W1.heap.size) ∨ W1.heap.size ≤ k) (fun k => (ok k ∧ k < W1.heap.size) ∨ W2.heap.size ≤ k) A2 A3 c2 c3 at_ ?hs ?hv HAL.out (by have := HL.out.2.2; omega) (by omega) (by omega) ?hap HB3.out HB3.out.size).mono ?_
   case hs => exact yC (HN23.out) (fun k hk => hk)
   case hv => exact HN3.out
   case hap => exact fun k hk h => by have h1 := HLT2.out k hk; have h2 := HBA2.out k hk; rw [HZ0.out] at h2; rcases h with h | h <;> omega
   rintro e W4 ⟨A4, c4, rfl, hN4, hb4⟩
   refine ⟨_, rfl, ?_⟩
   obtain ⟨l, hl⟩ : ∃ l, l = t.f2.take at_ ++ insD key d kid ++ t.f2.drop (at_ + 1) := ⟨_, rfl⟩
   rw [← hl] at hN4 HINS
   have HLL := zA (show l.length ≤ 5 ∧ 0 < l.length by have := HAL.out; have := HL.out.2.2; rw [hl]; simp only [List.length_append, zW, zX]; omega)
   have HGL := zA (show ∀ k ∈ l, goodD d false k by
     intro k hk
     rw [hl] at hk
     rcases List.mem_append.1 hk with hk | hk
     ·rcases List.mem_append.1 hk with hk | hk
      ·exact HG.out k (List.mem_of_mem_take hk)
      ·rcases ins_good key d false kid HGK.out with ⟨x, e, hx⟩ | ⟨x, y, e, hx, hy⟩
       ·rw [e] at hk; rw [List.mem_singleton.1 hk]; exact hx
       ·rw [e] at hk
        simp only [List.mem_cons, List.not_mem_nil, or_false] at hk
        rcases hk with rfl | rfl
        ·exact hx
        ·exact hy
     ·exact HG.out k (List.mem_of_mem_drop hk))
   rw [← hl]
   have HN4 := zA hN4
   have HB4 := zA hb4
   clear hN4 hb4 hl hil
   refine hK.out _ _ ⟨(blk_cell (zH HX.out HB4.out) 1).trans rfl, (HB4.out.cell (block_lt_of_cell HX2.out)).trans HX2.out⟩ (fun hHeld => ?_)
   clear hK K
   refine norm_ (a' := ?_) ?_ ?_
   rotate_left
   ·show Act.put _ (some 58) _ = _
    simp only [Act.put, zN, zO, zP, i64_w, i32_w]
    rfl
   refine one_ (i := 18) (N := some 59) #[true, true, true, true, true, true, true, true, true, true, true, true, true, true, true, true, true, true, true, false, false] rfl rfl (yN HT_.out (by kernel_rfl)) (by decide) (fun K hK => ?_)
   refine goes_ Try.func58 (by kernel_rfl) rfl #[.slice A4 l.length c4] (by rfl) rfl rfl (by (try simp only [yG, yH, List.map_nil]); first | done | rfl) ?_
   refine (newInner_any (d := d) (ks := l) (by have := HD.out; omega) HLL.out.1 HGL.out (Kd.N_F HN4.out)).mono ?_
   rintro e W5 ⟨b', rfl, hbs, hbk, hbb⟩
   refine ⟨_, rfl, ?_⟩
   have HB5 := zA (below_lo HB4.out hbb HB4.out.size)
   have HK5 := zA (show Kd.FK (kN (d + 1)) W5 (fun k => ok k ∨ W1.heap.size ≤ k) (⟨false, [], l⟩ : S56) [ifP 79 b'] from kN_mkS (c := c4) (A := A4) ⟨rfl, rfl, hbk, (Kd.N_reads' HN4.out).2.1⟩ (Or.inr (yI HB4.out.size hbs)) (Kd.F_mono (yF (Kd.N_F HN4.out) hbb) (fun k hk => by have h1 := HZ3.out; have h2 := HB3.out.size; rcases hk with (hk | hk) | hk <;> first | exact Or.inr (by omega) | (rcases hk with hk | hk <;> first | exact Or.inl hk.1 | exact Or.inr (by omega)))))
   refine hK.out _ _ ⟨(blk_cell (zH HX.out HB5.out) 1).trans rfl, (HB5.out.cell (block_lt_of_cell HX2.out)).trans HX2.out⟩ (fun hHeld => ?_)
   clear hbs hbk hbb
   clear hK K
   refine norm_ (a' := ?_) ?_ ?_
   rotate_left
   ·show Act.put _ (some 59) _ = _
    simp only [Act.put, zN, zO, zP, i64_w, i32_w]
    rfl
   refine pure_ (i := 19) (N := some 60) (v := ?_) (a' := ?_) #[true, true, true, true, true, true, true, true, true, true, true, true, true, true, true, true, true, true, true, true, false] rfl rfl (yM HT_.out (by kernel_rfl)) (fun _ _ _ h => h) (Or.inl ⟨by rfl, ?_⟩) ?_ ?_
   rotate_left
   ·intro w'
    go_simp
    with_reducible rfl
   rotate_left
   ·simp only [Act.put, zN, zO, zP, i64_w, i32_w]
    rfl
   refine pure_ (i := 20) (N := some 5) (v := ?_) (a' := ?_) #[true, true, true, true, true, true, true, true, true, true, true, true, true, true, true, true, true, true, true, true, true] rfl rfl (yM HT_.out (by kernel_rfl)) (fun _ _ _ h => h) (Or.inl ⟨by rfl, ?_⟩) ?_ ?_
   rotate_left
   ·intro w'
    go_simp
    with_reducible rfl
   rotate_left
   ·simp only [Act.put, zN, zO, zP, i64_w, i32_w]
    rfl
   refine done_ (done_of HT_.out (by kernel_rfl)) ?_
   have HS5 := zA (show insD key (d + 1) t = splitD (d + 1) (⟨false, [], l⟩ : S56) from HINS.out)
   have H5 := zA (show sizeD (d + 1) (⟨false, [], l⟩ : S56) ≤ 5 from HLL.out.1)
   have HKG := zA (show kidsG (d + 1) (⟨false, [], l⟩ : S56) from HGL.out)
   replace HB5 := zA (show Below W1.heap.size W1 W5 from HB5.out)
   generalize (⟨false, [], l⟩ : S56) = T at *
   clear HINS
   go_wp2_with fail
   refine (weight_any HK5.out).mono ?_
   rintro e W6 ⟨rfl, rfl⟩
   by_cases c4 : 4 < sizeD (d + 1) T
   ·have d1 : decide (4 < sizeD (d + 1) T) = true := zJ c4
    have d2 : decide (((4 : Nat) : Int) < ((sizeD (d + 1) T : Nat) : Int)) = true := zJ (by omega)
    have d3 : decide ((4 : Int) < ((sizeD (d + 1) T : Nat) : Int)) = true := zJ (by omega)
    have HSP := zA (show insD key ((d + 1)) t = [partD ((d + 1)) T 0 3, partD ((d + 1)) T 3 5] by rw [HS5.out]; unfold splitD; rw [if_neg (by omega)])
    have H55 := zA (show sizeD (d + 1) T = 5 by have := H5.out; omega)
    clear c4
    go_wp2_with fail
    refine (cut_any (a := 0) (b := 3) HK5.out (by decide) (by rw [H55.out]; decide) H5.out HKG.out (by have := HD.out; omega)).mono ?_
    rintro e W7 ⟨tp1, b1, rfl, hK7, hb7⟩
    have HK7 := zA hK7
    have HK57 := zA (yE HK5.out hb7)
    have HB7 := zA (below_lo HB5.out hb7 HB5.out.size)
    have HZ7 := zA (And.intro HB5.out.size hb7.size)
    clear hK7 hb7
    unfold ifP
    go_wp2_with fail
    refine (cut_any (a := 3) (b := 5) HK57.out (by decide) (by rw [H55.out]; decide) H5.out HKG.out (by have := HD.out; omega)).mono ?_
    rintro e W8 ⟨tp2, b2, rfl, hK8, hb8⟩
    have HK8 := zA (yD (ok' := fun k => ok k ∨ W1.heap.size ≤ k) hK8 (fun k hk => hk.elim id (fun h => Or.inr (by have := HZ7.out; omega))))
    have HK78 := zA (yD (ok' := fun k => ok k ∨ W1.heap.size ≤ k) (yE HK7.out hb8) (fun k hk => hk.elim id (fun h => Or.inr (by have := HZ7.out; omega))))
    have HB8 := zA (below_lo HB7.out hb8 HB7.out.size)
    clear hK8 hb8 HK7 HB7 HK57
    unfold ifP
    go_wp2_with fail
    go_ret
    have hN := N_two (base := W1.heap.size) (ok := fun k => ok k ∨ W1.heap.size ≤ k) HK78.out HK8.out rfl rfl (fun _ hk => hk) (Or.inr HB8.out.size) HB8.out.size
    rw [HSP.out]
    exact ⟨_, _, rfl, hN, HB8.out.alloc HB8.out.size _⟩
   ·have d1 : decide (4 < sizeD (d + 1) T) = false := zK c4
    have d2 : decide (((4 : Nat) : Int) < ((sizeD (d + 1) T : Nat) : Int)) = false := zK (by omega)
    have d3 : decide ((4 : Int) < ((sizeD (d + 1) T : Nat) : Int)) = false := zK (by omega)
    have HSP := zA (show insD key ((d + 1)) t = [T] by rw [HS5.out]; unfold splitD; rw [if_pos (by omega)])
    clear c4
    go_wp2_with fail
    go_ret
    have hN := N_one (base := W1.heap.size) (ok := fun k => ok k ∨ W1.heap.size ≤ k) HK5.out rfl (fun _ hk => hk) (Or.inr HB5.out.size) HB5.out.size
    rw [HSP.out]
    exact ⟨_, _, rfl, hN, HB5.out.alloc HB5.out.size _⟩

/-! ### zzy_zzimpl: a text by hand -/
-- uses RootEnd both_bound InsEnd
theorem eq_nilI (w : World) (tp : Nat) (v : Value) : (binOp .eql 67 (.iface tp v) .nilIface).run Try.prog w = .ok (.bool false) w := by
 have h : ∀ d : Nat, (Op.equalIn (d + 1) 67 (.iface tp v) .nilIface).run Try.prog w = .ok false w := fun d => by simp [Op.equalIn, run_underlying Try.underlying67]
 simp only [binOp]
 simp [Op.equal, Op.maxDepth, h 9999]
theorem eq_nilN (w : World) : (binOp .eql 67 .nilIface .nilIface).run Try.prog w = .ok (.bool true) w := by kernel_rfl
set_option maxHeartbeats 16000000 in
set_option maxRecDepth 100000 in
theorem impl_TreeInsert.calls (k : Nat) (A0_0 : Option Addr) (c0_0 : Nat) (l0_0 : List (S90)) (a1 : ByteArray) (r1 : Bool) (r2 : List (S90)) (w : World) (hr0_0 : Kd.C k90 w A0_0 l0_0.length l0_0) (hc0_0 : l0_0.length ≤ c0_0) (h : m_TreeInsert.f k l0_0 a1 = some (r1, r2)) :
  Calls Try.prog 27 #[.agg #[.slice A0_0 l0_0.length c0_0], .string a1] w fun e w' => ∃ v0_ : Value, e = .returned (.agg #[.bool r1, v0_]) ∧ Kd.S k90 90 w' w.heap.size (fun _ => True) v0_ r2 ∧ Below w.heap.size w w' := by
 unfold m_TreeInsert.f at h
 split at h
 case isFalse => cases h
 next hL =>
 injection h with h
 have hb0 : Below w.heap.size w ((w.alloc (.cells #[.slice A0_0 l0_0.length c0_0] 24)).alloc (.cells #[.bool false, .slice none 0 0] 44)) := below_alloc (below_alloc (zZ _ _) _) _
 have K1 := zA (zF (blk_new w (.cells #[.slice A0_0 l0_0.length c0_0] 24)) (.cells #[.bool false, .slice none 0 0] 44))
 have K2 := zA (blk_new (w.alloc (.cells #[.slice A0_0 l0_0.length c0_0] 24)) (.cells #[.bool false, .slice none 0 0] 44))
 rw [show (w.alloc (.cells #[.slice A0_0 l0_0.length c0_0] 24)).heap.size = w.heap.size + 1 by simp] at K2
 have HB := zA hb0
 have HC0 := zA hr0_0
 have HL := zA (And.intro hL hc0_0)
 have HH := zA h
 have hu24 := Try.underlying24
 have hu44 := Try.underlying44
 clear hb0 hL hr0_0 hc0_0 h
 go_enter Try.func27, Try.ntmps27
 go_upto_region 1 with (fail)
 generalize ((w.alloc (.cells #[.slice A0_0 l0_0.length c0_0] 24)).alloc (.cells #[.bool false, .slice none 0 0] 44)) = W0 at *
 have x0 : W0.cell? ⟨w.heap.size, 0, none⟩ = some (.slice A0_0 l0_0.length c0_0) := (blk_cell K1.out 0).trans rfl
 go_wp2_with fail
 refine (root_any l0_0 HL.out.1.1 A0_0 c0_0 W0 (heap90.C (w := w) (w1 := W0) (fun k hk => HB.out.block k hk) HC0.out) HL.out.2).mono ?_
 rintro e W5 ⟨hb, hcase⟩
 have HB5 := zA (below_lo HB.out hb HB.out.size)
 have K15 := zA (zH K1.out hb)
 have K25 := zA (zH K2.out hb)
 have HC5 := zA (heap90.C (w := w) (w1 := W5) (fun k hk => HB5.out.block k hk) HC0.out)
 clear hb x0 HB K1 K2
 have x0 : W5.cell? ⟨w.heap.size, 0, none⟩ = some (.slice A0_0 l0_0.length c0_0) := (blk_cell K15.out 0).trans rfl
 rcases hcase with ⟨rfl, hno⟩ | ⟨d, t, tp, b, hd, rfl, hK⟩
 ·have HE := zA (insM_bad (key := a1) hno)
  rw [HE.out] at HH
  obtain ⟨rfl, rfl⟩ : false = r1 ∧ l0_0 = r2 := by have := HH.out; simpa using this
  have hnn := eq_nilN
  clear hno
  go_wp2_with fail
  refine (tclone_any A0_0 c0_0 l0_0 W5 HC5.out HL.out.2 HL.out.1.1 (both_bound HL.out.1.2)).mono ?_
  rintro e W9 ⟨A9, c9, rfl, hS, hb⟩
  have hk := zH K25.out hb
  have hlt := blk_lt K25.out
  have K29 := zA hk
  have HB9 := zA (below_lo HB5.out hb HB5.out.size)
  have HS9 := zA (yB (ok' := fun k => k ≠ w.heap.size + 1) (Kd.S_lower hS (show w.heap.size ≤ _ from HB5.out.size)) (fun k hk => by have := hk; omega))
  obtain ⟨y0, y1, v0, v1⟩ : W9.cell? ⟨w.heap.size + 1, 0, none⟩ = some (.bool false) ∧ W9.cell? ⟨w.heap.size + 1, 1, none⟩ = some (.slice none 0 0) ∧ W9.frozen? ⟨w.heap.size + 1, 0, none⟩ = false ∧ W9.frozen? ⟨w.heap.size + 1, 1, none⟩ = false := ⟨(blk_cell hk 0).trans rfl, (blk_cell hk 1).trans rfl, zG hk 0, zG hk 1⟩
  clear hk hb hS hlt
  go_wp2_with fail
  refine bodyPost_ret (yK rfl _ _ (w.heap.size + 1) 44 #[.bool false, .slice A9 l0_0.length c9] (0, 0) _ rfl (blk_put (blk_put K29.out 0 _ rfl) 1 _ rfl) hu44 rfl (by kernel_rfl)) rfl ⟨_, rfl, ?_, ?_⟩
  ·exact yB (Kd.S_far (p := ⟨w.heap.size + 1, 1, none⟩) (Kd.S_far (p := ⟨w.heap.size + 1, 0, none⟩) HS9.out (fun k hk => hk) _) (fun k hk => hk) _) (fun _ _ => trivial)
  ·exact below_set (below_set HB9.out (by show w.heap.size ≤ w.heap.size + 1; omega)) (by show w.heap.size ≤ w.heap.size + 1; omega)
 ·have HD := zA hd
  have HDD := zA hd.depth
  have HKT := zA (yD (ok' := fun k => k < W5.heap.size) (Kd.FK_bound hK) (fun k hk => hk.2))
  have hen : ∀ w, (binOp .eql 67 (.iface tp (.pointer (some ⟨b, 0, none⟩))) .nilIface).run Try.prog w = .ok (.bool false) w := fun w => eq_nilI w tp _
  unfold ifP
  clear hd hK
  by_cases cs : 16 < a1.size
  ·have c16 : decide (((16 : Nat) : Int) < (a1.size : Int)) = true := zJ (by omega)
   have c17 : decide (16 < a1.size) = true := zJ cs
   have c18 : decide ((16 : Int) < (a1.size : Int)) = true := zJ (by omega)
   have HE := zA (insM_no (key := a1) HD.out (Or.inl cs))
   rw [HE.out] at HH
   obtain ⟨rfl, rfl⟩ : false = r1 ∧ l0_0 = r2 := by have := HH.out; simpa using this
   clear cs
   go_wp2_with fail
   refine (tclone_any A0_0 c0_0 l0_0 W5 HC5.out HL.out.2 HL.out.1.1 (both_bound HL.out.1.2)).mono ?_
   rintro e W9 ⟨A9, c9, rfl, hS, hb⟩
   have hk := zH K25.out hb
   have hlt := blk_lt K25.out
   have K29 := zA hk
   have HB9 := zA (below_lo HB5.out hb HB5.out.size)
   have HS9 := zA (yB (ok' := fun k => k ≠ w.heap.size + 1) (Kd.S_lower hS (show w.heap.size ≤ _ from HB5.out.size)) (fun k hk => by have := hk; omega))
   obtain ⟨y0, y1, v0, v1⟩ : W9.cell? ⟨w.heap.size + 1, 0, none⟩ = some (.bool false) ∧ W9.cell? ⟨w.heap.size + 1, 1, none⟩ = some (.slice none 0 0) ∧ W9.frozen? ⟨w.heap.size + 1, 0, none⟩ = false ∧ W9.frozen? ⟨w.heap.size + 1, 1, none⟩ = false := ⟨(blk_cell hk 0).trans rfl, (blk_cell hk 1).trans rfl, zG hk 0, zG hk 1⟩
   clear hk hb hS hlt
   go_wp2_with fail
   refine bodyPost_ret (yK rfl _ _ (w.heap.size + 1) 44 #[.bool false, .slice A9 l0_0.length c9] (0, 0) _ rfl (blk_put (blk_put K29.out 0 _ rfl) 1 _ rfl) hu44 rfl (by kernel_rfl)) rfl ⟨_, rfl, ?_, ?_⟩
   · exact yB (Kd.S_far (p := ⟨w.heap.size + 1, 1, none⟩) (Kd.S_far (p := ⟨w.heap.size + 1, 0, none⟩) HS9.out (fun k hk => hk) _) (fun k hk => hk) _) (fun _ _ => trivial)
   · exact below_set (below_set HB9.out (by show w.heap.size ≤ w.heap.size + 1; omega)) (by show w.heap.size ≤ w.heap.size + 1; omega)
  ·have c16 : decide (((16 : Nat) : Int) < (a1.size : Int)) = false := zK (by omega)
   have c17 : decide (16 < a1.size) = false := zK cs
   have c18 : decide ((16 : Int) < (a1.size : Int)) = false := zK (by omega)
   have CS := zA cs
   have HSRT := zA (ascK_srt HD.out.2.2.2)
   clear cs
   go_wp2_with fail
   refine (contains_any a1 d true t _ W5 _ HKT.out HD.out.1 HSRT.out).mono ?_
   rintro e W8 ⟨rfl, hb⟩
   have K18 := zA (zH K15.out hb)
   have K28 := zA (zH K25.out hb)
   have HB8 := zA (below_lo HB5.out hb HB5.out.size)
   have HC8 := zA (heap90.C (w := w) (w1 := W8) (fun k hk => HB8.out.block k hk) HC0.out)
   have HKT8 := zA (yD (ok' := fun k => k < W8.heap.size) (yE HKT.out hb) (fun k hk => yJ hk hb.size))
   clear hb x0 HB5 K15 K25 HC5 HKT
   have x0 : W8.cell? ⟨w.heap.size, 0, none⟩ = some (.slice A0_0 l0_0.length c0_0) := (blk_cell K18.out 0).trans rfl
   cases hh : hasK a1 (keysD d t) with
   | true =>
     have HE := zA (insM_no (key := a1) HD.out (Or.inr (hasK_iff.1 hh)))
     rw [HE.out] at HH
     obtain ⟨rfl, rfl⟩ : false = r1 ∧ l0_0 = r2 := by have := HH.out; simpa using this
     clear hh
     go_wp2_with fail
     refine (tclone_any A0_0 c0_0 l0_0 W8 HC8.out HL.out.2 HL.out.1.1 (both_bound HL.out.1.2)).mono ?_
     rintro e W9 ⟨A9, c9, rfl, hS, hb⟩
     have hk := zH K28.out hb
     have hlt := blk_lt K28.out
     have K29 := zA hk
     have HB9 := zA (below_lo HB8.out hb HB8.out.size)
     have HS9 := zA (yB (ok' := fun k => k ≠ w.heap.size + 1) (Kd.S_lower hS (show w.heap.size ≤ _ from HB8.out.size)) (fun k hk => by have := hk; omega))
     obtain ⟨y0, y1, v0, v1⟩ : W9.cell? ⟨w.heap.size + 1, 0, none⟩ = some (.bool false) ∧ W9.cell? ⟨w.heap.size + 1, 1, none⟩ = some (.slice none 0 0) ∧ W9.frozen? ⟨w.heap.size + 1, 0, none⟩ = false ∧ W9.frozen? ⟨w.heap.size + 1, 1, none⟩ = false := ⟨(blk_cell hk 0).trans rfl, (blk_cell hk 1).trans rfl, zG hk 0, zG hk 1⟩
     clear hk hb hS hlt
     go_wp2_with fail
     refine bodyPost_ret (yK rfl _ _ (w.heap.size + 1) 44 #[.bool false, .slice A9 l0_0.length c9] (0, 0) _ rfl (blk_put (blk_put K29.out 0 _ rfl) 1 _ rfl) hu44 rfl (by kernel_rfl)) rfl ⟨_, rfl, ?_, ?_⟩
     ·exact yB (Kd.S_far (p := ⟨w.heap.size + 1, 1, none⟩) (Kd.S_far (p := ⟨w.heap.size + 1, 0, none⟩) HS9.out (fun k hk => hk) _) (fun k hk => hk) _) (fun _ _ => trivial)
     ·exact below_set (below_set HB9.out (by show w.heap.size ≤ w.heap.size + 1; omega)) (by show w.heap.size ≤ w.heap.size + 1; omega)
   | false =>
     have HNO := zA (show ¬ (16 < a1.size ∨ a1 ∈ keysD d t) from fun h => h.elim CS.out (fun hm => by rw [hasK_iff.2 hm] at hh; cases hh))
     clear hh
     go_wp2_with fail
     refine (insert_any a1 d true t _ W8 _ HKT8.out HD.out.1 HSRT.out (by have := HDD.out; omega)).mono ?_
     rintro e W10 ⟨A10, c10, rfl, hN, hb⟩
     have K110 := zA (zH K18.out hb)
     have K210 := zA (zH K28.out hb)
     have HB10 := zA (below_lo HB8.out hb HB8.out.size)
     have HC10 := zA (heap90.C (w := w) (w1 := W10) (fun k hk => HB10.out.block k hk) HC0.out)
     have HN10 := zA (yC (ok' := fun k => k < W10.heap.size) (Kd.N_bound hN) (fun k hk => hk.2))
     clear hN hb K18 K28 HB8 HC8 HKT8 x0
     rcases ins_good a1 d true t HD.out.1 with ⟨y, hy, hyg⟩ | ⟨ya, yb, hy, hyg, hyg2⟩
     ·have HIN := zA hy
      have HYG := zA hyg
      rw [hy] at HN10 ⊢
      clear hy hyg
      obtain ⟨ad, v0, rfl, e0, hKe, _⟩ := at_N (Kd.N_F HN10.out) 0 (Nat.succ_pos _)
      rw [show rd_T56 [y] ((0 : Nat) : Int) = y from rfl] at hKe
      rw [Addr.add_zero'] at e0
      have HKE := zA hKe
      clear hKe
      go_wp2_with fail
      have HTOP := zA (show goodD d true y from HYG.out)
      obtain ⟨fl, hfl⟩ : ∃ fl, fl = flatD d y 0 := ⟨_, rfl⟩
      have HFL := zA hfl
      clear hfl
      refine (lay_any w.heap.size w (d) true y _ W10 none 0 [] (fun k => W10.heap.size ≤ k) (fun k => k < W10.heap.size) HTOP.out (by have := HDD.out; omega) (Kd.S_nil _ _ _ _ _) HKE.out (fun k hk => by omega) HB10.out HB10.out.size (by have := HDD.out; simp; omega)).mono ?_
      rintro e W12 ⟨⟨v12, rfl, hS⟩, hb, hkp⟩
      rw [List.nil_append, show ((([] : List S90).length : Nat) : Int) = 0 from rfl, ← HFL.out] at hS
      obtain ⟨A12, c12, rfl⟩ := Kd.S_slice hS
      have HB12 := zA hb
      have hke : ∀ k, k < W10.heap.size → W12.heap[k]? = W10.heap[k]? := fun k hk => hkp.2 k hk (by omega)
      have K112 := zA ((hke _ (blk_lt K110.out)).trans K110.out)
      have K212 := zA ((hke _ (blk_lt K210.out)).trans K210.out)
      have HC12 := zA (heap90.C (w := w) (w1 := W12) (fun k hk => HB12.out.block k hk) HC0.out)
      have HS12 := zA (yB (ok' := fun k => k ≠ w.heap.size + 1) hS (fun k hk => by have := blk_lt K210.out; omega))
      clear hS hb hkp hke
      have x0 : W12.cell? ⟨w.heap.size, 0, none⟩ = some (.slice A0_0 l0_0.length c0_0) := (blk_cell K112.out 0).trans rfl
      obtain ⟨y0, y1, v0, v1⟩ : W12.cell? ⟨w.heap.size + 1, 0, none⟩ = some (.bool false) ∧ W12.cell? ⟨w.heap.size + 1, 1, none⟩ = some (.slice none 0 0) ∧ W12.frozen? ⟨w.heap.size + 1, 0, none⟩ = false ∧ W12.frozen? ⟨w.heap.size + 1, 1, none⟩ = false := ⟨(blk_cell K212.out 0).trans rfl, (blk_cell K212.out 1).trans rfl, zG K212.out 0, zG K212.out 1⟩
      by_cases cb : 5000 < fl.length
      ·have c16 : decide (((5000 : Nat) : Int) < (fl.length : Int)) = true := zJ (by omega)
       have c17 : decide (5000 < fl.length) = true := zJ cb
       have c18 : decide ((5000 : Int) < (fl.length : Int)) = true := zJ (by omega)
       have HE2 := zA (insM_big HD.out HNO.out (by rw [HIN.out]; have := cb; rw [HFL.out] at this; exact this))
       rw [HE2.out] at HH
       obtain ⟨rfl, rfl⟩ : false = r1 ∧ l0_0 = r2 := by have := HH.out; simpa using this
       clear cb y0 y1 v0 v1
       go_wp2_with fail
       refine (tclone_any A0_0 c0_0 l0_0 W12 HC12.out HL.out.2 HL.out.1.1 (both_bound HL.out.1.2)).mono ?_
       rintro e W9 ⟨A9, c9, rfl, hS, hb⟩
       have hk := zH K212.out hb
       have hlt := blk_lt K212.out
       have K29 := zA hk
       have HB9 := zA (below_lo HB12.out hb HB12.out.size)
       have HS9 := zA (yB (ok' := fun k => k ≠ w.heap.size + 1) (Kd.S_lower hS (show w.heap.size ≤ _ from HB12.out.size)) (fun k hk => by have := hk; omega))
       obtain ⟨y0, y1, v0, v1⟩ : W9.cell? ⟨w.heap.size + 1, 0, none⟩ = some (.bool false) ∧ W9.cell? ⟨w.heap.size + 1, 1, none⟩ = some (.slice none 0 0) ∧ W9.frozen? ⟨w.heap.size + 1, 0, none⟩ = false ∧ W9.frozen? ⟨w.heap.size + 1, 1, none⟩ = false := ⟨(blk_cell hk 0).trans rfl, (blk_cell hk 1).trans rfl, zG hk 0, zG hk 1⟩
       clear hk hb hS hlt
       go_wp2_with fail
       refine bodyPost_ret (yK rfl _ _ (w.heap.size + 1) 44 #[.bool false, .slice A9 l0_0.length c9] (0, 0) _ rfl (blk_put (blk_put K29.out 0 _ rfl) 1 _ rfl) hu44 rfl (by kernel_rfl)) rfl ⟨_, rfl, ?_, ?_⟩
       ·exact yB (Kd.S_far (p := ⟨w.heap.size + 1, 1, none⟩) (Kd.S_far (p := ⟨w.heap.size + 1, 0, none⟩) HS9.out (fun k hk => hk) _) (fun k hk => hk) _) (fun _ _ => trivial)
       ·exact below_set (below_set HB9.out (by show w.heap.size ≤ w.heap.size + 1; omega)) (by show w.heap.size ≤ w.heap.size + 1; omega)
      ·have c16 : decide (((5000 : Nat) : Int) < (fl.length : Int)) = false := zK (by omega)
       have c17 : decide (5000 < fl.length) = false := zK cb
       have c18 : decide ((5000 : Int) < (fl.length : Int)) = false := zK (by omega)
       have HE2 := zA (insM_yes HD.out HNO.out (by rw [HIN.out]; have := cb; rw [HFL.out] at this; exact this))
       rw [HE2.out, HIN.out] at HH
       obtain ⟨rfl, hr2⟩ : true = r1 ∧ fl = r2 := by have := HH.out; rw [HFL.out]; simpa [topD] using this
       subst hr2
       clear cb
       go_wp2_with fail
       refine bodyPost_ret (yK rfl _ _ (w.heap.size + 1) 44 #[.bool true, .slice A12 _ c12] (0, 0) _ rfl (blk_put (blk_put K212.out 0 _ rfl) 1 _ rfl) hu44 rfl (by kernel_rfl)) rfl ⟨_, rfl, ?_, ?_⟩
       ·exact yB (Kd.S_far (p := ⟨w.heap.size + 1, 1, none⟩) (Kd.S_far (p := ⟨w.heap.size + 1, 0, none⟩) HS12.out (fun k hk => hk) _) (fun k hk => hk) _) (fun _ _ => trivial)
       ·exact below_set (below_set HB12.out (by show w.heap.size ≤ w.heap.size + 1; omega)) (by show w.heap.size ≤ w.heap.size + 1; omega)
     ·have HIN := zA hy
      have HYG := zA (And.intro hyg hyg2)
      rw [hy] at HN10 ⊢
      clear hy hyg hyg2
      obtain ⟨ad, v0, rfl, e0, hKe, _⟩ := at_N (Kd.N_F HN10.out) 0 (Nat.succ_pos _)
      rw [Addr.add_zero'] at e0
      clear hKe
      go_wp2_with fail
      refine (newInner_any (d := d) (ks := [ya, yb]) (by have := HDD.out; omega) (show 2 ≤ 5 by decide) (two_all HYG.out.1 HYG.out.2) (Kd.N_F HN10.out)).mono ?_
      rintro e W11 ⟨b', rfl, hbs, hbk, hbb⟩
      have K111 := zA (zH K110.out hbb)
      have K211 := zA (zH K210.out hbb)
      have HB11 := zA (below_lo HB10.out hbb HB10.out.size)
      have HKE := zA (show Kd.FK (kN (d + 1)) W11 (fun k => k < W11.heap.size) (⟨false, [], [ya, yb]⟩ : S56) [ifP 79 b'] from kN_mkS (c := c10) (A := some ad) ⟨rfl, rfl, hbk, (Kd.N_reads' HN10.out).2.1⟩ (blk_lt hbk) (Kd.F_mono (yF (Kd.N_F HN10.out) hbb) (fun k hk => yJ hk hbb.size)))
      clear hbs hbk hbb e0
      go_wp2_with fail
      have HTOP := zA (show goodD (d + 1) true (⟨false, [], [ya, yb]⟩ : S56) from ⟨rfl, rfl, zY 2, show 2 ≤ 4 by decide, two_all HYG.out.1 HYG.out.2⟩)
      obtain ⟨fl, hfl⟩ : ∃ fl, fl = flatD (d + 1) (⟨false, [], [ya, yb]⟩ : S56) 0 := ⟨_, rfl⟩
      have HFL := zA hfl
      clear hfl
      refine (lay_any w.heap.size w ((d + 1)) true (⟨false, [], [ya, yb]⟩ : S56) _ W11 none 0 [] (fun k => W11.heap.size ≤ k) (fun k => k < W11.heap.size) HTOP.out (by have := HDD.out; omega) (Kd.S_nil _ _ _ _ _) HKE.out (fun k hk => by omega) HB11.out HB11.out.size (by have := HDD.out; simp; omega)).mono ?_
      rintro e W12 ⟨⟨v12, rfl, hS⟩, hb, hkp⟩
      rw [List.nil_append, show ((([] : List S90).length : Nat) : Int) = 0 from rfl, ← HFL.out] at hS
      obtain ⟨A12, c12, rfl⟩ := Kd.S_slice hS
      have HB12 := zA hb
      have hke : ∀ k, k < W11.heap.size → W12.heap[k]? = W11.heap[k]? := fun k hk => hkp.2 k hk (by omega)
      have K112 := zA ((hke _ (blk_lt K111.out)).trans K111.out)
      have K212 := zA ((hke _ (blk_lt K211.out)).trans K211.out)
      have HC12 := zA (heap90.C (w := w) (w1 := W12) (fun k hk => HB12.out.block k hk) HC0.out)
      have HS12 := zA (yB (ok' := fun k => k ≠ w.heap.size + 1) hS (fun k hk => by have := blk_lt K211.out; omega))
      clear hS hb hkp hke
      have x0 : W12.cell? ⟨w.heap.size, 0, none⟩ = some (.slice A0_0 l0_0.length c0_0) := (blk_cell K112.out 0).trans rfl
      obtain ⟨y0, y1, v0, v1⟩ : W12.cell? ⟨w.heap.size + 1, 0, none⟩ = some (.bool false) ∧ W12.cell? ⟨w.heap.size + 1, 1, none⟩ = some (.slice none 0 0) ∧ W12.frozen? ⟨w.heap.size + 1, 0, none⟩ = false ∧ W12.frozen? ⟨w.heap.size + 1, 1, none⟩ = false := ⟨(blk_cell K212.out 0).trans rfl, (blk_cell K212.out 1).trans rfl, zG K212.out 0, zG K212.out 1⟩
      by_cases cb : 5000 < fl.length
      ·have c16 : decide (((5000 : Nat) : Int) < (fl.length : Int)) = true := zJ (by omega)
       have c17 : decide (5000 < fl.length) = true := zJ cb
       have c18 : decide ((5000 : Int) < (fl.length : Int)) = true := zJ (by omega)
       have HE2 := zA (insM_big HD.out HNO.out (by rw [HIN.out]; have := cb; rw [HFL.out] at this; exact this))
       rw [HE2.out] at HH
       obtain ⟨rfl, rfl⟩ : false = r1 ∧ l0_0 = r2 := by have := HH.out; simpa using this
       clear cb y0 y1 v0 v1
       go_wp2_with fail
       refine (tclone_any A0_0 c0_0 l0_0 W12 HC12.out HL.out.2 HL.out.1.1 (both_bound HL.out.1.2)).mono ?_
       rintro e W9 ⟨A9, c9, rfl, hS, hb⟩
       have hk := zH K212.out hb
       have hlt := blk_lt K212.out
       have K29 := zA hk
       have HB9 := zA (below_lo HB12.out hb HB12.out.size)
       have HS9 := zA (yB (ok' := fun k => k ≠ w.heap.size + 1) (Kd.S_lower hS (show w.heap.size ≤ _ from HB12.out.size)) (fun k hk => by have := hk; omega))
       obtain ⟨y0, y1, v0, v1⟩ : W9.cell? ⟨w.heap.size + 1, 0, none⟩ = some (.bool false) ∧ W9.cell? ⟨w.heap.size + 1, 1, none⟩ = some (.slice none 0 0) ∧ W9.frozen? ⟨w.heap.size + 1, 0, none⟩ = false ∧ W9.frozen? ⟨w.heap.size + 1, 1, none⟩ = false := ⟨(blk_cell hk 0).trans rfl, (blk_cell hk 1).trans rfl, zG hk 0, zG hk 1⟩
       clear hk hb hS hlt
       go_wp2_with fail
       refine bodyPost_ret (yK rfl _ _ (w.heap.size + 1) 44 #[.bool false, .slice A9 l0_0.length c9] (0, 0) _ rfl (blk_put (blk_put K29.out 0 _ rfl) 1 _ rfl) hu44 rfl (by kernel_rfl)) rfl ⟨_, rfl, ?_, ?_⟩
       ·exact yB (Kd.S_far (p := ⟨w.heap.size + 1, 1, none⟩) (Kd.S_far (p := ⟨w.heap.size + 1, 0, none⟩) HS9.out (fun k hk => hk) _) (fun k hk => hk) _) (fun _ _ => trivial)
       ·exact below_set (below_set HB9.out (by show w.heap.size ≤ w.heap.size + 1; omega)) (by show w.heap.size ≤ w.heap.size + 1; omega)
      ·have c16 : decide (((5000 : Nat) : Int) < (fl.length : Int)) = false := zK (by omega)
       have c17 : decide (5000 < fl.length) = false := zK cb
       have c18 : decide ((5000 : Int) < (fl.length : Int)) = false := zK (by omega)
       have HE2 := zA (insM_yes HD.out HNO.out (by rw [HIN.out]; have := cb; rw [HFL.out] at this; exact this))
       rw [HE2.out, HIN.out] at HH
       obtain ⟨rfl, hr2⟩ : true = r1 ∧ fl = r2 := by have := HH.out; rw [HFL.out]; simpa [topD] using this
       subst hr2
       clear cb
       go_wp2_with fail
       refine bodyPost_ret (yK rfl _ _ (w.heap.size + 1) 44 #[.bool true, .slice A12 _ c12] (0, 0) _ rfl (blk_put (blk_put K212.out 0 _ rfl) 1 _ rfl) hu44 rfl (by kernel_rfl)) rfl ⟨_, rfl, ?_, ?_⟩
       ·exact yB (Kd.S_far (p := ⟨w.heap.size + 1, 1, none⟩) (Kd.S_far (p := ⟨w.heap.size + 1, 0, none⟩) HS12.out (fun k hk => hk) _) (fun k hk => hk) _) (fun _ _ => trivial)
       ·exact below_set (below_set HB12.out (by show w.heap.size ≤ w.heap.size + 1; omega)) (by show w.heap.size ≤ w.heap.size + 1; omega)

/-! ### zzy_zzmark: a text by hand -/
theorem N_iv {α : Type} {d : Kd α} {e b : Nat} {w : World} {v : Value} {xs : List α} (h : Kd.N d e w b (fun k => b ≤ k) v xs) (B lo : Nat) (hB : B ≤ b) (hlo : lo ≤ b) : Kd.N d e w B (fun k => (lo ≤ k ∧ k < w.heap.size) ∧ b ≤ k) v xs :=
 yC (Kd.N_lower (Kd.N_bound h) hB) (fun _ hk => ⟨⟨yI hlo hk.1, hk.2⟩, hk.1⟩)
set_option maxHeartbeats 1000000 in
set_option maxRecDepth 100000 in
theorem laws_markTreeRes.own (k lo hi : Nat) (b : Bool) (v : Value) (l : List S90) (m0 m1 : Int) (l' : List S90) (w0 w : World) {ok : Nat → Prop} (hle : w0.heap.size ≤ lo) (hB : Below w0.heap.size w0 w)
  (ho : Kd.S k90 90 w w0.heap.size (fun k => (lo ≤ k ∧ k < hi) ∧ ok k) v l) (h : laws_markTNodeS.f k l m0 = some (m1, l')) :
  Calls Try.prog 29 #[.agg #[.bool b, v], .int .i64 m0] w fun e w' => e = .returned (.int .i64 m1) ∧ Kd.S k90 90 w' w0.heap.size (fun k => ((lo ≤ k ∧ k < hi) ∧ ok k) ∨ w.heap.size ≤ k) v l' ∧ Below w0.heap.size w0 w' ∧ Kept w w' (fun k => lo ≤ k ∧ k < hi) := by
 have H1 := zA h
 have HB := zA hB
 have HO := zA (yB (ok' := fun k => (lo ≤ k ∧ k < hi) ∧ (ok k ∧ k < w.heap.size)) (Kd.S_bound ho) (fun k hk => ⟨hk.1.1, hk.1.2, hk.2.2.1⟩))
 clear h hB ho
 have hu := Try.underlying44
 have hu2 := Try.underlying24
 obtain ⟨A0, c0, rfl⟩ := Kd.S_slice HO.out
 go_enter Try.func29, Try.ntmps29
 go_wp2_with fail
 refine (laws_markTree.own k lo hi (.slice A0 l.length c0) l m0 m1 l' w0 _ hle (below_allocB HB.out HB.out.size _) (Kd.S_alloc HO.out _) H1.out).mono ?_
 rintro e w1 ⟨rfl, hS1, hB1, hK1⟩
 have n1 := zA (yB (ok' := fun k => ((lo ≤ k ∧ k < hi) ∧ ok k) ∨ w.heap.size ≤ k) hS1 (fun k hk => hk.imp (fun h => ⟨h.1, h.2.1⟩) (fun h => by simp at h; omega)))
 have n2 := zA hB1
 have n3 := zA (show Kept w w1 (fun k => lo ≤ k ∧ k < hi) from (Kept.alloc (Kept.refl w _) _).then_ hK1 (fun k hk => .inl hk))
 clear hS1 hB1 hK1
 go_wp2
 go_ret
 exact ⟨rfl, n1.out, n2.out, n3.out⟩
theorem heldI_loop : ∀ (rest pre : List Int) (a : Int), 0 ≤ a → a + rest.length ≤ 100000000000000 → pre.length + rest.length ≤ 1000000000 → Ev (fun k => laws_heldInt64S.l0 k (pre ++ mkI a rest) a (pre.length : Int)) (a + rest.length)
 | [], pre, a, h0, h1, h2 => by
   rw [show mkI a [] = [] from rfl, List.append_nil, show a + (([] : List Int).length : Int) = a by simp]
   exact Ev.step (f := fun _ => some a) (fun K => by simp only [laws_heldInt64S.l0]; rw [if_neg (by omega)]) (Ev.now _)
 | x :: r, pre, a, h0, h1, h2 => by
   have hl : ((x :: r).length : Int) = (r.length : Int) + 1 := by simp
   have hl2 : (x :: r).length = r.length + 1 := rfl
   rw [hl] at h1
   rw [hl2] at h2
   have ih := heldI_loop r (pre ++ [a]) (a + 1) (by omega) (by omega) (by simp; omega)
   rw [hl, show a + ((r.length : Int) + 1) = a + 1 + (r.length : Int) by omega, show mkI a (x :: r) = a :: mkI (a + 1) r from rfl]
   have w1 : wrap64 (a + 1) = a + 1 := by unfold wrap64; omega
   have w4 : wrap64 ((pre.length : Int) + 1) = ((pre ++ [a]).length : Int) := by simp; unfold wrap64; omega
   have hr : rd (pre ++ a :: mkI (a + 1) r) (pre.length : Int) = a := by
    rw [rdi_at _ _ (by simp)]
    simp
   refine Ev.step (fun K => by simp only [laws_heldInt64S.l0]; rw [if_pos (by simp; omega), if_pos (by omega), hr, if_pos rfl, w1, w4]) ?_
   rw [List.append_assoc] at ih
   exact ih
theorem heldI_ev (l : List Int) (a : Int) (h0 : 0 ≤ a) (h1 : a + l.length ≤ 100000000000000) (h2 : l.length ≤ 1000000000) : Ev (fun k => laws_heldInt64S.f k (mkI a l) a) (a + l.length) := heldI_loop l [] a h0 h1 (by simp; omega)
theorem heldT_loop : ∀ (rest pre : List S90), (∀ x ∈ rest, x.f1.length ≤ 1048576 ∧ x.f2.length ≤ 1048576) → ∀ (a : Int), 0 ≤ a → a + 2097154 * rest.length ≤ 100000000000000 → pre.length + rest.length ≤ 1000000000 → Ev (fun k => laws_heldTNodeS.l0 k (pre ++ (mkT a rest).2) a (pre.length : Int)) (mkT a rest).1
 | [], pre, _, a, h0, h1, h2 => by
   rw [show (mkT a []).1 = a from rfl, show (mkT a []).2 = [] from rfl, List.append_nil]
   exact Ev.step (f := fun _ => some a) (fun K => by simp only [laws_heldTNodeS.l0]; rw [if_neg (by omega)]) (Ev.now _)
 | x :: r, pre, hl, a, h0, h1, h2 => by
   have hx := hl x List.mem_cons_self
   rw [List.length_cons] at h1 h2
   obtain ⟨y, hy⟩ : ∃ y : S90, y = ⟨decide (Int.tmod a 3 = 0), mkS (a + 1) x.f1, mkI (a + 1 + x.f1.length) x.f2, a + 1 + x.f1.length + x.f2.length⟩ := ⟨_, rfl⟩
   have ih := heldT_loop r (pre ++ [y]) (fun z hz => hl z (List.mem_cons_of_mem _ hz)) (a + 2 + x.f1.length + x.f2.length) (by omega) (by omega) (by simp; omega)
   have e1 : (mkT a (x :: r)).1 = (mkT (a + 2 + x.f1.length + x.f2.length) r).1 := rfl
   have e2 : (mkT a (x :: r)).2 = y :: (mkT (a + 2 + x.f1.length + x.f2.length) r).2 := by rw [hy]; rfl
   rw [e1, e2]
   have w1 : wrap64 (a + 1) = a + 1 := by unfold wrap64; omega
   have w2 : wrap64 (a + 1 + x.f1.length + x.f2.length + 1) = a + 2 + x.f1.length + x.f2.length := by unfold wrap64; omega
   have w4 : wrap64 ((pre.length : Int) + 1) = ((pre ++ [y]).length : Int) := by simp; unfold wrap64; omega
   have hr : rd_T90 (pre ++ y :: (mkT (a + 2 + x.f1.length + x.f2.length) r).2) (pre.length : Int) = y := by
    rw [rd90_at _ _ (by simp)]
    simp
   have hb : (y.f0 != ((Int.tmod a 3) == 0)) = false := by
    rw [hy]
    by_cases c : Int.tmod a 3 = 0 <;> simp [c]
   have f1 : y.f1 = mkS (a + 1) x.f1 := by rw [hy]
   have f2 : y.f2 = mkI (a + 1 + x.f1.length) x.f2 := by rw [hy]
   have f3 : y.f3 = a + 1 + x.f1.length + x.f2.length := by rw [hy]
   refine Ev.step (f := fun k => (laws_heldStringS.f k (mkS (a + 1) x.f1) (a + 1)).bind fun t460 => (if t460 < 0 then (some (-1)) else ((laws_heldInt64S.f k (mkI (a + 1 + x.f1.length) x.f2) t460).bind fun t462 => (if t462 < 0 then (some (-1)) else (if y.f3 = t462 then (laws_heldTNodeS.l0 k (pre ++ y :: (mkT (a + 2 + x.f1.length + x.f2.length) r).2) (wrap64 (t462 + 1)) (wrap64 ((pre.length : Int) + 1))) else (some (-1))))))) (fun K => by
    simp only [laws_heldTNodeS.l0]
    rw [if_pos (by simp; omega), if_pos (by omega), hr, hb, if_neg (by decide), f1, f2, w1]) ?_
   refine Ev.bind (heldS_ev x.f1 (a + 1) (by omega) (by omega) (by omega)) ?_
   refine Ev.congr (f := fun k => (laws_heldInt64S.f k (mkI (a + 1 + x.f1.length) x.f2) (a + 1 + x.f1.length)).bind fun t462 => (if t462 < 0 then (some (-1)) else (if y.f3 = t462 then (laws_heldTNodeS.l0 k (pre ++ y :: (mkT (a + 2 + x.f1.length + x.f2.length) r).2) (wrap64 (t462 + 1)) (wrap64 ((pre.length : Int) + 1))) else (some (-1))))) (fun k => by rw [if_neg (by omega)]) ?_
   refine Ev.bind (heldI_ev x.f2 (a + 1 + x.f1.length) (by omega) (by omega) (by omega)) ?_
   refine Ev.congr (fun k => by rw [if_neg (by omega), if_pos f3, w2, w4]) ?_
   rw [List.append_assoc] at ih
   exact ih
theorem heldTR_ev (b : Bool) (l : List S90) (hl : ∀ x ∈ l, x.f1.length ≤ 1048576 ∧ x.f2.length ≤ 1048576) (h : l.length ≤ 1048576) : Ev (fun k => laws_heldTreeRes.f k b (mkT 1 l).2 1) (mkT 1 l).1 := by
 have h1 := heldT_loop l [] hl 1 (by decide) (by omega) (by simp; omega)
 have hb := (mkT_bd l hl 1).1
 unfold laws_heldTreeRes.f laws_heldTree.f
 refine Ev.bind (Ev.bind h1 (Ev.congr (f := fun _ => some (mkT 1 l).1) (fun k => by rw [if_neg (by omega)]) (Ev.now _))) ?_
 exact Ev.congr (f := fun _ => some (mkT 1 l).1) (fun k => by rw [if_neg (by omega)]) (Ev.now _)
theorem eqTR_ev (b : Bool) (l : List S90) (hL : l.length ≤ 1048576) (hok : ∀ x ∈ l, x.f1.length ≤ 1048576 ∧ x.f2.length ≤ 1048576) : Ev (fun k => laws_eqTreeRes.f k b l b l) true := by
 unfold laws_eqTreeRes.f
 refine Ev.congr (f := fun k => (laws_eqTree.f k l l).bind fun t => if t = true then some true else some false) (fun k => by rw [if_neg (by simp)]) ?_
 exact Ev.bind (eqTree_ev l hL hok) (Ev.congr (f := fun _ => some true) (fun _ => by rw [if_pos rfl]) (Ev.now _))

/-! ### zzz_guard1_TreeInsert: a text by hand -/
set_option maxHeartbeats 4000000 in
set_option maxRecDepth 100000 in
theorem guard1_FnExactTreeInsert (A0_0 : Option Addr) (c0_0 : Nat) (l0_0 : List S98) (a1 : ByteArray) (r1 : Int) (w : World)
  (hr0_0 : Kd.C k98 w A0_0 l0_0.length l0_0) (hc0_0 : l0_0.length ≤ c0_0)
  (E2 : Ev (fun k => laws_szTree.f k l0_0 1048576) r1) (E2p : r1 < 0) (G1 : a1.size ≤ 1048576) :
  Calls Try.prog 7 #[.agg #[.slice A0_0 l0_0.length c0_0], .string a1] w fun e w' => e = .returned (.bool true) ∧ Below w.heap.size w w' := by
 obtain ⟨k_E2, h_E2⟩ := E2.rounds
 have H_E2 := zA h_E2
 clear E2 h_E2
 have E2pb : decide (r1 < 0) = true := zJ (by omega)
 have HR0_0 := zA hr0_0
 have HC0_0 := zA hc0_0
 clear hr0_0 hc0_0
 have hu31 := Try.underlying31
 have HB := zA (zZ w.heap.size w)
 go_enter Try.func7, Try.ntmps7
 go_wp2_with fail
 refine (laws_szTree.calls k_E2 _ _ l0_0 1048576 r1 _ (zQ HR0_0.out (below_alloc HB.out _)) HC0_0.out H_E2.out).mono ?_
 rintro e w1 ⟨rfl, gb⟩
 have hz1 : w.heap.size + 1 ≤ w1.heap.size := by have := gb.size; first | omega | (simp at this; omega)
 have N_HB := zA (zU (below_alloc HB.out _) gb)
 have K2 := zA (show w1.heap[w.heap.size]? = some (.cells #[.slice A0_0 l0_0.length c0_0] 31 (0, 0)) from by have := zH (blk_new _ _) gb; simpa using this)
 clear HB
 have HB := N_HB
 clear N_HB
 clear gb
 go_wp2
 go_ret
 exact ⟨rfl, by first | exact HB.out | exact below_alloc HB.out _ | exact below_alloc (below_alloc HB.out _) _ | exact below_alloc (below_alloc (below_alloc HB.out _) _) _⟩

/-! ### zzz_guardL1_TreeInsert: a text by hand -/
set_option maxHeartbeats 4000000 in
set_option maxRecDepth 100000 in
theorem guardL1_FnExactTreeInsert (A0_0 : Option Addr) (c0_0 : Nat) (l0_0 : List S98) (a1 : ByteArray)  (w : World)
  (hr0_0 : Kd.C k98 w A0_0 l0_0.length l0_0) (hc0_0 : l0_0.length ≤ c0_0)
   (G1 : 1048576 < a1.size) :
  Calls Try.prog 7 #[.agg #[.slice A0_0 l0_0.length c0_0], .string a1] w fun e w' => e = .returned (.bool true) ∧ Below w.heap.size w w' := by
 have HR0_0 := zA hr0_0
 have HC0_0 := zA hc0_0
 clear hr0_0 hc0_0
 have HB := zA (zZ w.heap.size w)
 go_enter Try.func7, Try.ntmps7
 go_wp2
 go_ret
 exact ⟨rfl, by first | exact HB.out | exact below_alloc HB.out _ | exact below_alloc (below_alloc HB.out _) _ | exact below_alloc (below_alloc (below_alloc HB.out _) _) _⟩

/-! ### zzz_walk_TreeInsert: a text by hand -/
set_option maxHeartbeats 4000000 in
set_option maxRecDepth 100000 in
theorem walk_FnExactTreeInsert (A0_0 : Option Addr) (c0_0 : Nat) (l0_0 : List S98) (a1 : ByteArray) (r1 : Int) (r3 : List S90) (r6 : Bool) (r7 : List S90) (m16 : Int) (l17 : List S90) (m19 : Int) (l20 : List S90) (w : World)
  (hr0_0 : Kd.C k98 w A0_0 l0_0.length l0_0) (hc0_0 : l0_0.length ≤ c0_0)
  (E2 : Ev (fun k => laws_szTree.f k l0_0 1048576) r1) (E2p : 0 ≤ r1) (E4 : Ev (fun k => laws_toTree.f k l0_0) r3) (E8 : Ev (fun k => m_TreeInsert.f k r3 a1) (r6, r7)) (E11 : Ev (fun k => m_TreeInsert.f k r3 a1) (r6, r7)) (E13 : Ev (fun k => laws_eqTreeRes.f k r6 r7 r6 r7) true) (E15 : Ev (fun k => laws_eqTree.f k r3 r3) true) (E18 : Ev (fun k => laws_markTNodeS.f k r3 1) (m16, l17)) (Pm16 : 0 ≤ m16) (E21 : Ev (fun k => laws_markTNodeS.f k r7 1) (m19, l20)) (Pm19 : 0 ≤ m19) (E22 : Ev (fun k => laws_heldTreeRes.f k r6 l20 1) m19) (G1 : a1.size ≤ 1048576) :
  Calls Try.prog 7 #[.agg #[.slice A0_0 l0_0.length c0_0], .string a1] w fun e w' => e = .returned (.bool true) ∧ Below w.heap.size w w' := by
 obtain ⟨k_E2, h_E2⟩ := E2.rounds
 have H_E2 := zA h_E2
 clear E2 h_E2
 obtain ⟨k_E4, h_E4⟩ := E4.rounds
 have H_E4 := zA h_E4
 clear E4 h_E4
 obtain ⟨k_E8, h_E8⟩ := E8.rounds
 have H_E8 := zA h_E8
 clear E8 h_E8
 obtain ⟨k_E11, h_E11⟩ := E11.rounds
 have H_E11 := zA h_E11
 clear E11 h_E11
 obtain ⟨k_E13, h_E13⟩ := E13.rounds
 have H_E13 := zA h_E13
 clear E13 h_E13
 obtain ⟨k_E15, h_E15⟩ := E15.rounds
 have H_E15 := zA h_E15
 clear E15 h_E15
 obtain ⟨k_E18, h_E18⟩ := E18.rounds
 have H_E18 := zA h_E18
 clear E18 h_E18
 obtain ⟨k_E21, h_E21⟩ := E21.rounds
 have H_E21 := zA h_E21
 clear E21 h_E21
 obtain ⟨k_E22, h_E22⟩ := E22.rounds
 have H_E22 := zA h_E22
 clear E22 h_E22
 have E2pb : decide (r1 < 0) = false := zK (by omega)
 have Pm16b : decide (m16 < 0) = false := zK (by omega)
 have Pm19b : decide (m19 < 0) = false := zK (by omega)
 have HR0_0 := zA hr0_0
 have HC0_0 := zA hc0_0
 clear hr0_0 hc0_0
 have hu24 := Try.underlying24
 have hu31 := Try.underlying31
 have hu44 := Try.underlying44
 have HB := zA (zZ w.heap.size w)
 go_enter Try.func7, Try.ntmps7
 go_wp2_with fail
 refine (laws_szTree.calls k_E2 _ _ l0_0 1048576 r1 _ (zQ HR0_0.out (below_alloc HB.out _)) HC0_0.out H_E2.out).mono ?_
 rintro e w1 ⟨rfl, gb⟩
 have hz1 : w.heap.size + 1 ≤ w1.heap.size := by have := gb.size; first | omega | (simp at this; omega)
 have N_HB := zA (zU (below_alloc HB.out _) gb)
 have K2 := zA (show w1.heap[w.heap.size]? = some (.cells #[.slice A0_0 l0_0.length c0_0] 31 (0, 0)) from by have := zH (blk_new _ _) gb; simpa using this)
 clear HB
 have HB := N_HB
 clear N_HB
 clear gb
 have y2 : w.heap.size < w1.heap.size := by omega
 have z2_0 : w1.cell? ⟨w.heap.size, 0, none⟩ = some (.slice A0_0 l0_0.length c0_0) := (blk_cell K2.out 0).trans rfl
 go_wp2_with fail
 clear y2 z2_0
 refine (laws_toTree.calls k_E4 _ _ l0_0 r3 _ (zQ HR0_0.out HB.out) HC0_0.out H_E4.out).mono ?_
 rintro e w2 ⟨q5u0, rfl, q5g0, gb⟩
 have q5X0 := zA (S_iv q5g0 w.heap.size (w1.heap.size) (by have := HB.out.size; first | (simp; done) | (simp; omega) | omega) (by simp))
 clear q5g0
 obtain ⟨q5A0, q5c0, rfl⟩ := Kd.S_slice q5X0.out
 have hz2 : w1.heap.size + 0 ≤ w2.heap.size := by have := gb.size; first | omega | (simp at this; omega)
 have N_HB := zA (zU HB.out gb)
 have N_K2 := zA (zH K2.out gb)
 clear HB K2
 have HB := N_HB
 have K2 := N_K2
 clear N_HB N_K2
 clear gb
 have y2 : w.heap.size < w2.heap.size := by omega
 have z2_0 : w2.cell? ⟨w.heap.size, 0, none⟩ = some (.slice A0_0 l0_0.length c0_0) := (blk_cell K2.out 0).trans rfl
 go_wp2_with fail
 clear y2 z2_0
 refine (spec_TreeInsert.calls k_E8 _ _ r3 a1 r6 r7 _ (Kd.S_reads' q5X0.out).2.2 (Kd.S_reads' q5X0.out).2.1 H_E8.out).mono ?_
 rintro e w3 ⟨q9u1, rfl, q9g1, gb⟩
 have q9X1 := zA (N_iv q9g1 w.heap.size (w2.heap.size) (by have := HB.out.size; first | (simp; done) | (simp; omega) | omega) (by simp))
 clear q9g1
 obtain ⟨q9A1, q9c1, rfl⟩ := Kd.N_slice q9X1.out
 have hz3 : w2.heap.size + 0 ≤ w3.heap.size := by have := gb.size; first | omega | (simp at this; omega)
 have N_HB := zA (zU HB.out gb)
 have N_q5X0 := zA (Kd.S_below q5X0.out gb)
 have N_K2 := zA (zH K2.out gb)
 clear HB q5X0 K2
 have HB := N_HB
 have q5X0 := N_q5X0
 have K2 := N_K2
 clear N_HB N_q5X0 N_K2
 clear gb
 have y2 : w.heap.size < w3.heap.size := by omega
 have z2_0 : w3.cell? ⟨w.heap.size, 0, none⟩ = some (.slice A0_0 l0_0.length c0_0) := (blk_cell K2.out 0).trans rfl
 go_wp2_with fail
 clear y2 z2_0
 refine (laws_toTree.calls k_E4 _ _ l0_0 r3 _ (zQ HR0_0.out (below_alloc HB.out _)) HC0_0.out H_E4.out).mono ?_
 rintro e w4 ⟨q10u0, rfl, q10g0, gb⟩
 have q10X0 := zA (S_iv q10g0 w.heap.size (w3.heap.size + 1) (by have := HB.out.size; first | (simp; done) | (simp; omega) | omega) (by simp))
 clear q10g0
 obtain ⟨q10A0, q10c0, rfl⟩ := Kd.S_slice q10X0.out
 have hz4 : w3.heap.size + 1 ≤ w4.heap.size := by have := gb.size; first | omega | (simp at this; omega)
 have N_HB := zA (zU (below_alloc HB.out _) gb)
 have N_q5X0 := zA (Kd.S_below (Kd.S_alloc q5X0.out _) gb)
 have N_q9X1 := zA (Kd.N_below (Kd.N_alloc q9X1.out _) gb)
 have N_K2 := zA (zH (zF K2.out _) gb)
 have K6 := zA (show w4.heap[w3.heap.size]? = some (.cells #[.bool r6, .slice q9A1 r7.length q9c1] 44 (0, 0)) from by have := zH (blk_new _ _) gb; simpa using this)
 clear HB q5X0 q9X1 K2
 have HB := N_HB
 have q5X0 := N_q5X0
 have q9X1 := N_q9X1
 have K2 := N_K2
 clear N_HB N_q5X0 N_q9X1 N_K2
 clear gb
 go_wp2_with fail
 refine (impl_TreeInsert.calls k_E11 _ _ r3 a1 r6 r7 _ (zR (Kd.S_reads' q10X0.out).2.2 _) (Kd.S_reads' q10X0.out).2.1 H_E11.out).mono ?_
 rintro e w5 ⟨q12u1, rfl, q12g1, gb⟩
 have q12X1 := zA (S_iv q12g1 w.heap.size (w4.heap.size + 1) (by have := HB.out.size; first | (simp; done) | (simp; omega) | omega) (by simp))
 clear q12g1
 obtain ⟨q12A1, q12c1, rfl⟩ := Kd.S_slice q12X1.out
 have hz5 : w4.heap.size + 1 ≤ w5.heap.size := by have := gb.size; first | omega | (simp at this; omega)
 have N_HB := zA (zU (below_alloc HB.out _) gb)
 have N_q5X0 := zA (Kd.S_below (Kd.S_alloc q5X0.out _) gb)
 have N_q9X1 := zA (Kd.N_below (Kd.N_alloc q9X1.out _) gb)
 have N_q10X0 := zA (Kd.S_below (Kd.S_alloc q10X0.out _) gb)
 have N_K2 := zA (zH (zF K2.out _) gb)
 have N_K6 := zA (zH (zF K6.out _) gb)
 have K7 := zA (show w5.heap[w4.heap.size]? = some (.cells #[.slice q10A0 r3.length q10c0] 24 (0, 0)) from by have := zH (blk_new _ _) gb; simpa using this)
 clear HB q5X0 q9X1 q10X0 K2 K6
 have HB := N_HB
 have q5X0 := N_q5X0
 have q9X1 := N_q9X1
 have q10X0 := N_q10X0
 have K2 := N_K2
 have K6 := N_K6
 clear N_HB N_q5X0 N_q9X1 N_q10X0 N_K2 N_K6
 clear gb
 have y6 : w3.heap.size < w5.heap.size := by omega
 have z6_0 : w5.cell? ⟨w3.heap.size, 0, none⟩ = some (.bool r6) := (blk_cell K6.out 0).trans rfl
 have z6_1 : w5.cell? ⟨w3.heap.size, 1, none⟩ = some (.slice q9A1 r7.length q9c1) := (blk_cell K6.out 1).trans rfl
 go_wp2_with fail
 clear y6 z6_0 z6_1
 refine (laws_eqTreeRes.calls k_E13 r6 _ _ r7 r6 _ _ r7 true _ (zR (Kd.S_reads' q12X1.out).2.2 _) (Kd.S_reads' q12X1.out).2.1 (zR (Kd.N_reads' q9X1.out).2.2 _) (Kd.N_reads' q9X1.out).2.1 H_E13.out).mono ?_
 rintro e w6 ⟨rfl, gb⟩
 have hz6 : w5.heap.size + 1 ≤ w6.heap.size := by have := gb.size; first | omega | (simp at this; omega)
 have N_HB := zA (zU (below_alloc HB.out _) gb)
 have N_q5X0 := zA (Kd.S_below (Kd.S_alloc q5X0.out _) gb)
 have N_q9X1 := zA (Kd.N_below (Kd.N_alloc q9X1.out _) gb)
 have N_q10X0 := zA (Kd.S_below (Kd.S_alloc q10X0.out _) gb)
 have N_q12X1 := zA (Kd.S_below (Kd.S_alloc q12X1.out _) gb)
 have N_K2 := zA (zH (zF K2.out _) gb)
 have N_K6 := zA (zH (zF K6.out _) gb)
 have N_K7 := zA (zH (zF K7.out _) gb)
 have K8 := zA (show w6.heap[w5.heap.size]? = some (.cells #[.bool r6, .slice q12A1 r7.length q12c1] 44 (0, 0)) from by have := zH (blk_new _ _) gb; simpa using this)
 clear HB q5X0 q9X1 q10X0 q12X1 K2 K6 K7
 have HB := N_HB
 have q5X0 := N_q5X0
 have q9X1 := N_q9X1
 have q10X0 := N_q10X0
 have q12X1 := N_q12X1
 have K2 := N_K2
 have K6 := N_K6
 have K7 := N_K7
 clear N_HB N_q5X0 N_q9X1 N_q10X0 N_q12X1 N_K2 N_K6 N_K7
 clear gb
 have y7 : w4.heap.size < w6.heap.size := by omega
 have z7_0 : w6.cell? ⟨w4.heap.size, 0, none⟩ = some (.slice q10A0 r3.length q10c0) := (blk_cell K7.out 0).trans rfl
 have y2 : w.heap.size < w6.heap.size := by omega
 have z2_0 : w6.cell? ⟨w.heap.size, 0, none⟩ = some (.slice A0_0 l0_0.length c0_0) := (blk_cell K2.out 0).trans rfl
 go_wp2_with fail
 go_region_held3 (fun w' => w'.cell? ⟨w4.heap.size, 0, none⟩ = some (.slice q10A0 r3.length q10c0) ∧ w'.cell? ⟨w.heap.size, 0, none⟩ = some (.slice A0_0 l0_0.length c0_0)) (go_keep) (first | (go_at_call 17; (refine (laws_toTree.calls k_E4 _ _ l0_0 r3 _ (zQ HR0_0.out (below_drew HB.out)) HC0_0.out H_E4.out).mono ?_); (rintro e w7 ⟨q14u0, rfl, q14g0, gb⟩); (have q14X0 := zA (S_iv q14g0 w.heap.size (w6.heap.size) (by have := HB.out.size; first | (simp; done) | (simp; omega) | omega) (by simp))); (clear q14g0); (obtain ⟨q14A0, q14c0, rfl⟩ := Kd.S_slice q14X0.out); (have hz7 : w6.heap.size + 0 ≤ w7.heap.size := by have := gb.size; first | omega | (simp at this; omega)); (have N_HB := zA (zU (below_drew HB.out) gb)); (have N_q5X0 := zA (Kd.S_below (Kd.S_drew q5X0.out) gb)); (have N_q9X1 := zA (Kd.N_below (Kd.N_drew q9X1.out) gb)); (have N_q10X0 := zA (Kd.S_below (Kd.S_drew q10X0.out) gb)); (have N_q12X1 := zA (Kd.S_below (Kd.S_drew q12X1.out) gb)); (have N_K2 := zA (zH (zE K2.out) gb)); (have N_K6 := zA (zH (zE K6.out) gb)); (have N_K7 := zA (zH (zE K7.out) gb)); (have N_K8 := zA (zH (zE K8.out) gb)); (clear HB q5X0 q9X1 q10X0 q12X1 K2 K6 K7 K8); (have HB := N_HB); (have q5X0 := N_q5X0); (have q9X1 := N_q9X1); (have q10X0 := N_q10X0); (have q12X1 := N_q12X1); (have K2 := N_K2); (have K6 := N_K6); (have K7 := N_K7); (have K8 := N_K8); (clear N_HB N_q5X0 N_q9X1 N_q10X0 N_q12X1 N_K2 N_K6 N_K7 N_K8); (clear gb); (clear y7 z7_0 y2 z2_0); (have y7 : w4.heap.size < w7.heap.size := by omega); (have z7_0 : w7.cell? ⟨w4.heap.size, 0, none⟩ = some (.slice q10A0 r3.length q10c0) := (blk_cell K7.out 0).trans rfl); (have y2 : w.heap.size < w7.heap.size := by omega); (have z2_0 : w7.cell? ⟨w.heap.size, 0, none⟩ = some (.slice A0_0 l0_0.length c0_0) := (blk_cell K2.out 0).trans rfl)) | (go_at_call 12; (refine (laws_eqTree.calls k_E15 _ _ r3 _ _ r3 true _ (Kd.S_reads' q10X0.out).2.2 (Kd.S_reads' q10X0.out).2.1 (Kd.S_reads' q14X0.out).2.2 (Kd.S_reads' q14X0.out).2.1 H_E15.out).mono ?_); (rintro e w8 ⟨rfl, gb⟩); (have hz8 : w7.heap.size + 0 ≤ w8.heap.size := by have := gb.size; first | omega | (simp at this; omega)); (have N_HB := zA (zU HB.out gb)); (have N_q5X0 := zA (Kd.S_below q5X0.out gb)); (have N_q9X1 := zA (Kd.N_below q9X1.out gb)); (have N_q10X0 := zA (Kd.S_below q10X0.out gb)); (have N_q12X1 := zA (Kd.S_below q12X1.out gb)); (have N_q14X0 := zA (Kd.S_below q14X0.out gb)); (have N_K2 := zA (zH K2.out gb)); (have N_K6 := zA (zH K6.out gb)); (have N_K7 := zA (zH K7.out gb)); (have N_K8 := zA (zH K8.out gb)); (clear HB q5X0 q9X1 q10X0 q12X1 q14X0 K2 K6 K7 K8); (have HB := N_HB); (have q5X0 := N_q5X0); (have q9X1 := N_q9X1); (have q10X0 := N_q10X0); (have q12X1 := N_q12X1); (have q14X0 := N_q14X0); (have K2 := N_K2); (have K6 := N_K6); (have K7 := N_K7); (have K8 := N_K8); (clear N_HB N_q5X0 N_q9X1 N_q10X0 N_q12X1 N_q14X0 N_K2 N_K6 N_K7 N_K8); (clear gb); (clear y7 z7_0 y2 z2_0); (have y7 : w4.heap.size < w8.heap.size := by omega); (have z7_0 : w8.cell? ⟨w4.heap.size, 0, none⟩ = some (.slice q10A0 r3.length q10c0) := (blk_cell K7.out 0).trans rfl); (have y2 : w.heap.size < w8.heap.size := by omega); (have z2_0 : w8.cell? ⟨w.heap.size, 0, none⟩ = some (.slice A0_0 l0_0.length c0_0) := (blk_cell K2.out 0).trans rfl)))
 clear y7 z7_0 y2 z2_0
 have y7 : w4.heap.size < w8.heap.size := by omega
 have z7_0 : w8.cell? ⟨w4.heap.size, 0, none⟩ = some (.slice q10A0 r3.length q10c0) := (blk_cell K7.out 0).trans rfl
 go_wp2_with fail
 clear y7 z7_0
 refine (laws_markTree.own k_E18 (w3.heap.size + 1) (w4.heap.size) _ r3 1 m16 l17 w _ (by have := HB.out.size; omega) HB.out q10X0.out H_E18.out).mono ?_
 rintro e w9 ⟨rfl, g_0, gB, hk⟩
 have hz9 : w8.heap.size + 0 ≤ w9.heap.size := by have := hk.1; first | omega | (simp at this; omega)
 have N_q5X0 := zA (Kd.S_kept q5X0.out hk (fun k hk1 hk2 => by have := hk1.1; omega))
 have N_q9X1 := zA (Kd.N_kept q9X1.out hk (fun k hk1 hk2 => by have := hk1.1; omega))
 have N_q12X1 := zA (Kd.S_kept q12X1.out hk (fun k hk1 hk2 => by have := hk1.1; omega))
 have N_q14X0 := zA (Kd.S_kept q14X0.out hk (fun k hk1 hk2 => by have := hk1.1; omega))
 have N_K2 := zA (blk_kept K2.out hk (fun hk2 => by omega))
 have N_K6 := zA (blk_kept K6.out hk (fun hk2 => by omega))
 have N_K7 := zA (blk_kept K7.out hk (fun hk2 => by omega))
 have N_K8 := zA (blk_kept K8.out hk (fun hk2 => by omega))
 clear q5X0 q9X1 q12X1 q14X0 K2 K6 K7 K8
 have q5X0 := N_q5X0
 have q9X1 := N_q9X1
 have q12X1 := N_q12X1
 have q14X0 := N_q14X0
 have K2 := N_K2
 have K6 := N_K6
 have K7 := N_K7
 have K8 := N_K8
 clear N_q5X0 N_q9X1 N_q12X1 N_q14X0 N_K2 N_K6 N_K7 N_K8
 clear HB hk
 have HB := zA gB
 clear gB
 clear q10X0
 have q10X0 := zA g_0
 clear g_0
 have ev_ : (.slice q10A0 r3.length q10c0 : Value) = .slice q10A0 l17.length q10c0 := by rw [(Kd.S_reads' q10X0.out).1]
 try rw [ev_] at q10X0
 try rw [ev_] at K7
 try rw [ev_]
 clear ev_
 clear q10X0 K7
 have y8 : w5.heap.size < w9.heap.size := by omega
 have z8_0 : w9.cell? ⟨w5.heap.size, 0, none⟩ = some (.bool r6) := (blk_cell K8.out 0).trans rfl
 have z8_1 : w9.cell? ⟨w5.heap.size, 1, none⟩ = some (.slice q12A1 r7.length q12c1) := (blk_cell K8.out 1).trans rfl
 have y6 : w3.heap.size < w9.heap.size := by omega
 have z6_0 : w9.cell? ⟨w3.heap.size, 0, none⟩ = some (.bool r6) := (blk_cell K6.out 0).trans rfl
 have z6_1 : w9.cell? ⟨w3.heap.size, 1, none⟩ = some (.slice q9A1 r7.length q9c1) := (blk_cell K6.out 1).trans rfl
 go_wp2_with fail
 clear y8 z8_0 z8_1 y6 z6_0 z6_1
 refine (laws_eqTreeRes.calls k_E13 r6 _ _ r7 r6 _ _ r7 true _ (Kd.S_reads' q12X1.out).2.2 (Kd.S_reads' q12X1.out).2.1 (Kd.N_reads' q9X1.out).2.2 (Kd.N_reads' q9X1.out).2.1 H_E13.out).mono ?_
 rintro e w10 ⟨rfl, gb⟩
 have hz10 : w9.heap.size + 0 ≤ w10.heap.size := by have := gb.size; first | omega | (simp at this; omega)
 have N_HB := zA (zU HB.out gb)
 have N_q5X0 := zA (Kd.S_below q5X0.out gb)
 have N_q9X1 := zA (Kd.N_below q9X1.out gb)
 have N_q12X1 := zA (Kd.S_below q12X1.out gb)
 have N_q14X0 := zA (Kd.S_below q14X0.out gb)
 have N_K2 := zA (zH K2.out gb)
 have N_K6 := zA (zH K6.out gb)
 have N_K8 := zA (zH K8.out gb)
 clear HB q5X0 q9X1 q12X1 q14X0 K2 K6 K8
 have HB := N_HB
 have q5X0 := N_q5X0
 have q9X1 := N_q9X1
 have q12X1 := N_q12X1
 have q14X0 := N_q14X0
 have K2 := N_K2
 have K6 := N_K6
 have K8 := N_K8
 clear N_HB N_q5X0 N_q9X1 N_q12X1 N_q14X0 N_K2 N_K6 N_K8
 clear gb
 have y8 : w5.heap.size < w10.heap.size := by omega
 have z8_0 : w10.cell? ⟨w5.heap.size, 0, none⟩ = some (.bool r6) := (blk_cell K8.out 0).trans rfl
 have z8_1 : w10.cell? ⟨w5.heap.size, 1, none⟩ = some (.slice q12A1 r7.length q12c1) := (blk_cell K8.out 1).trans rfl
 go_wp2_with fail
 clear y8 z8_0 z8_1
 refine (laws_markTreeRes.own k_E21 (w4.heap.size + 1) (w5.heap.size) r6 _ r7 1 m19 l20 w _ (by have := HB.out.size; omega) HB.out q12X1.out H_E21.out).mono ?_
 rintro e w11 ⟨rfl, g_0, gB, hk⟩
 have hz11 : w10.heap.size + 0 ≤ w11.heap.size := by have := hk.1; first | omega | (simp at this; omega)
 have N_q5X0 := zA (Kd.S_kept q5X0.out hk (fun k hk1 hk2 => by have := hk1.1; omega))
 have N_q9X1 := zA (Kd.N_kept q9X1.out hk (fun k hk1 hk2 => by have := hk1.1; omega))
 have N_q14X0 := zA (Kd.S_kept q14X0.out hk (fun k hk1 hk2 => by have := hk1.1; omega))
 have N_K2 := zA (blk_kept K2.out hk (fun hk2 => by omega))
 have N_K6 := zA (blk_kept K6.out hk (fun hk2 => by omega))
 have N_K8 := zA (blk_kept K8.out hk (fun hk2 => by omega))
 clear q5X0 q9X1 q14X0 K2 K6 K8
 have q5X0 := N_q5X0
 have q9X1 := N_q9X1
 have q14X0 := N_q14X0
 have K2 := N_K2
 have K6 := N_K6
 have K8 := N_K8
 clear N_q5X0 N_q9X1 N_q14X0 N_K2 N_K6 N_K8
 clear HB hk
 have HB := zA gB
 clear gB
 clear q12X1
 have q12X1 := zA g_0
 clear g_0
 have ev_ : (.slice q12A1 r7.length q12c1 : Value) = .slice q12A1 l20.length q12c1 := by rw [(Kd.S_reads' q12X1.out).1]
 try rw [ev_] at q12X1
 try rw [ev_] at K8
 try rw [ev_]
 clear ev_
 have y8 : w5.heap.size < w11.heap.size := by omega
 have z8_0 : w11.cell? ⟨w5.heap.size, 0, none⟩ = some (.bool r6) := (blk_cell K8.out 0).trans rfl
 have z8_1 : w11.cell? ⟨w5.heap.size, 1, none⟩ = some (.slice q12A1 l20.length q12c1) := (blk_cell K8.out 1).trans rfl
 go_wp2_with fail
 clear y8 z8_0 z8_1
 refine (laws_heldTreeRes.calls k_E22 r6 _ _ l20 1 m19 _ (Kd.S_reads' q12X1.out).2.2 (Kd.S_reads' q12X1.out).2.1 H_E22.out).mono ?_
 rintro e w12 ⟨rfl, gb⟩
 have hz12 : w11.heap.size + 0 ≤ w12.heap.size := by have := gb.size; first | omega | (simp at this; omega)
 have N_HB := zA (zU HB.out gb)
 have N_q5X0 := zA (Kd.S_below q5X0.out gb)
 have N_q9X1 := zA (Kd.N_below q9X1.out gb)
 have N_q12X1 := zA (Kd.S_below q12X1.out gb)
 have N_q14X0 := zA (Kd.S_below q14X0.out gb)
 have N_K2 := zA (zH K2.out gb)
 have N_K6 := zA (zH K6.out gb)
 have N_K8 := zA (zH K8.out gb)
 clear HB q5X0 q9X1 q12X1 q14X0 K2 K6 K8
 have HB := N_HB
 have q5X0 := N_q5X0
 have q9X1 := N_q9X1
 have q12X1 := N_q12X1
 have q14X0 := N_q14X0
 have K2 := N_K2
 have K6 := N_K6
 have K8 := N_K8
 clear N_HB N_q5X0 N_q9X1 N_q12X1 N_q14X0 N_K2 N_K6 N_K8
 clear gb
 have y2 : w.heap.size < w12.heap.size := by omega
 have z2_0 : w12.cell? ⟨w.heap.size, 0, none⟩ = some (.slice A0_0 l0_0.length c0_0) := (blk_cell K2.out 0).trans rfl
 go_wp2_with fail
 clear y2 z2_0
 refine (laws_toTree.calls k_E4 _ _ l0_0 r3 _ (zQ HR0_0.out HB.out) HC0_0.out H_E4.out).mono ?_
 rintro e w13 ⟨q23u0, rfl, q23g0, gb⟩
 have q23X0 := zA (S_iv q23g0 w.heap.size (w12.heap.size) (by have := HB.out.size; first | (simp; done) | (simp; omega) | omega) (by simp))
 clear q23g0
 obtain ⟨q23A0, q23c0, rfl⟩ := Kd.S_slice q23X0.out
 have hz13 : w12.heap.size + 0 ≤ w13.heap.size := by have := gb.size; first | omega | (simp at this; omega)
 have N_HB := zA (zU HB.out gb)
 have N_q5X0 := zA (Kd.S_below q5X0.out gb)
 have N_q9X1 := zA (Kd.N_below q9X1.out gb)
 have N_q12X1 := zA (Kd.S_below q12X1.out gb)
 have N_q14X0 := zA (Kd.S_below q14X0.out gb)
 have N_K2 := zA (zH K2.out gb)
 have N_K6 := zA (zH K6.out gb)
 have N_K8 := zA (zH K8.out gb)
 clear HB q5X0 q9X1 q12X1 q14X0 K2 K6 K8
 have HB := N_HB
 have q5X0 := N_q5X0
 have q9X1 := N_q9X1
 have q12X1 := N_q12X1
 have q14X0 := N_q14X0
 have K2 := N_K2
 have K6 := N_K6
 have K8 := N_K8
 clear N_HB N_q5X0 N_q9X1 N_q12X1 N_q14X0 N_K2 N_K6 N_K8
 clear gb
 have y2 : w.heap.size < w13.heap.size := by omega
 have z2_0 : w13.cell? ⟨w.heap.size, 0, none⟩ = some (.slice A0_0 l0_0.length c0_0) := (blk_cell K2.out 0).trans rfl
 go_wp2_with fail
 clear y2 z2_0
 refine (impl_TreeInsert.calls k_E11 _ _ r3 a1 r6 r7 _ (Kd.S_reads' q23X0.out).2.2 (Kd.S_reads' q23X0.out).2.1 H_E11.out).mono ?_
 rintro e w14 ⟨q24u1, rfl, q24g1, gb⟩
 have q24X1 := zA (S_iv q24g1 w.heap.size (w13.heap.size) (by have := HB.out.size; first | (simp; done) | (simp; omega) | omega) (by simp))
 clear q24g1
 obtain ⟨q24A1, q24c1, rfl⟩ := Kd.S_slice q24X1.out
 have hz14 : w13.heap.size + 0 ≤ w14.heap.size := by have := gb.size; first | omega | (simp at this; omega)
 have N_HB := zA (zU HB.out gb)
 have N_q5X0 := zA (Kd.S_below q5X0.out gb)
 have N_q9X1 := zA (Kd.N_below q9X1.out gb)
 have N_q12X1 := zA (Kd.S_below q12X1.out gb)
 have N_q14X0 := zA (Kd.S_below q14X0.out gb)
 have N_q23X0 := zA (Kd.S_below q23X0.out gb)
 have N_K2 := zA (zH K2.out gb)
 have N_K6 := zA (zH K6.out gb)
 have N_K8 := zA (zH K8.out gb)
 clear HB q5X0 q9X1 q12X1 q14X0 q23X0 K2 K6 K8
 have HB := N_HB
 have q5X0 := N_q5X0
 have q9X1 := N_q9X1
 have q12X1 := N_q12X1
 have q14X0 := N_q14X0
 have q23X0 := N_q23X0
 have K2 := N_K2
 have K6 := N_K6
 have K8 := N_K8
 clear N_HB N_q5X0 N_q9X1 N_q12X1 N_q14X0 N_q23X0 N_K2 N_K6 N_K8
 clear gb
 have y6 : w3.heap.size < w14.heap.size := by omega
 have z6_0 : w14.cell? ⟨w3.heap.size, 0, none⟩ = some (.bool r6) := (blk_cell K6.out 0).trans rfl
 have z6_1 : w14.cell? ⟨w3.heap.size, 1, none⟩ = some (.slice q9A1 r7.length q9c1) := (blk_cell K6.out 1).trans rfl
 go_wp2_with fail
 clear y6 z6_0 z6_1
 refine (laws_eqTreeRes.calls k_E13 r6 _ _ r7 r6 _ _ r7 true _ (zR (Kd.S_reads' q24X1.out).2.2 _) (Kd.S_reads' q24X1.out).2.1 (zR (Kd.N_reads' q9X1.out).2.2 _) (Kd.N_reads' q9X1.out).2.1 H_E13.out).mono ?_
 rintro e w15 ⟨rfl, gb⟩
 have hz15 : w14.heap.size + 1 ≤ w15.heap.size := by have := gb.size; first | omega | (simp at this; omega)
 have N_HB := zA (zU (below_alloc HB.out _) gb)
 have N_q5X0 := zA (Kd.S_below (Kd.S_alloc q5X0.out _) gb)
 have N_q9X1 := zA (Kd.N_below (Kd.N_alloc q9X1.out _) gb)
 have N_q12X1 := zA (Kd.S_below (Kd.S_alloc q12X1.out _) gb)
 have N_q14X0 := zA (Kd.S_below (Kd.S_alloc q14X0.out _) gb)
 have N_q23X0 := zA (Kd.S_below (Kd.S_alloc q23X0.out _) gb)
 have N_q24X1 := zA (Kd.S_below (Kd.S_alloc q24X1.out _) gb)
 have N_K2 := zA (zH (zF K2.out _) gb)
 have N_K6 := zA (zH (zF K6.out _) gb)
 have N_K8 := zA (zH (zF K8.out _) gb)
 have K12 := zA (show w15.heap[w14.heap.size]? = some (.cells #[.bool r6, .slice q24A1 r7.length q24c1] 44 (0, 0)) from by have := zH (blk_new _ _) gb; simpa using this)
 clear HB q5X0 q9X1 q12X1 q14X0 q23X0 q24X1 K2 K6 K8
 have HB := N_HB
 have q5X0 := N_q5X0
 have q9X1 := N_q9X1
 have q12X1 := N_q12X1
 have q14X0 := N_q14X0
 have q23X0 := N_q23X0
 have q24X1 := N_q24X1
 have K2 := N_K2
 have K6 := N_K6
 have K8 := N_K8
 clear N_HB N_q5X0 N_q9X1 N_q12X1 N_q14X0 N_q23X0 N_q24X1 N_K2 N_K6 N_K8
 clear gb
 go_wp2
 go_ret
 exact ⟨rfl, by first | exact HB.out | exact below_alloc HB.out _ | exact below_alloc (below_alloc HB.out _) _ | exact below_alloc (below_alloc (below_alloc HB.out _) _) _⟩

/-! ### zzzz_main_TreeInsert: a text by hand -/
theorem insM_ok (ns : List S90) (key : ByteArray) (hl : ns.length ≤ 1048576) (hn : ∀ x ∈ ns, x.f1.length ≤ 1048576 ∧ x.f2.length ≤ 1048576) : (insM ns key).2.length ≤ 1048576 ∧ ∀ x ∈ (insM ns key).2, x.f1.length ≤ 1048576 ∧ x.f2.length ≤ 1048576 := by
 by_cases hx : ∃ d t, okT ns d t
 ·obtain ⟨d, t, hok⟩ := hx
  by_cases c : 16 < key.size ∨ key ∈ keysD d t
  ·rw [insM_no hok c]
   exact ⟨hl, hn⟩
  ·by_cases c2 : 5000 < (flatD (topD d (insD key d t)).1 (topD d (insD key d t)).2 0).length
   ·rw [insM_big hok c c2]
    exact ⟨hl, hn⟩
   ·rw [insM_yes hok c c2]
    refine ⟨by show (flatD _ _ 0).length ≤ _; omega, fun x hx => ?_⟩
    have := flatD_small 0 (top_good key hok.1) x hx
    omega
 ·rw [insM_bad (fun d t h => hx ⟨d, t, h⟩)]
  exact ⟨hl, hn⟩
theorem main_TreeInsert (A : Option Addr) (c : Nat) (l : List S98) (s1 : ByteArray)
  (F : l.length ≤ maxLen ∧ ∀ x ∈ l, True ∧ (x.f1.length ≤ maxLen ∧ ∀ y ∈ x.f1, y.size ≤ maxLen) ∧ (x.f2.length ≤ maxLen ∧ ∀ y ∈ x.f2, (Lit.int .i64 y).wf = true) ∧ (Lit.int .i64 x.f3).wf = true) (_F1 : s1.size ≤ maxLen)
  (w : World) (hr : Kd.C k98 w A l.length l) (hc : l.length ≤ c) :
  Calls Try.prog 7 #[.agg #[.slice A l.length c], .string s1] w fun e w' => e = .returned (.bool true) ∧ Below w.heap.size w w' := by
 by_cases cs : 1048576 < s1.size
 ·exact guardL1_FnExactTreeInsert A c l s1 w hr hc cs
 obtain ⟨r, hs, hok⟩ := szTree_ev l F.1 (fun x hx => ⟨(F.2 x hx).2.1.1, (F.2 x hx).2.1.2, (F.2 x hx).2.2.1.1⟩)
 by_cases c0 : r < 0
 ·exact guard1_FnExactTreeInsert A c l s1 r w hr hc hs c0 (by omega)
 obtain ⟨hl, hn⟩ := hok (by omega)
 have hT := toTree_ev l hl hn
 have hl2 : (cvT l).length ≤ 1048576 := by rw [cvT_len]; exact hl
 have hn2 : ∀ x ∈ cvT l, x.f1.length ≤ 1048576 ∧ x.f2.length ≤ 1048576 := fun x hx => by
  obtain ⟨y, hy, rfl⟩ := List.mem_map.1 hx
  exact hn y hy
 have hv : Ev (fun k => m_TreeInsert.f k (cvT l) s1) ((insM (cvT l) s1).1, (insM (cvT l) s1).2) := Ev.congr (f := fun _ => some (insM (cvT l) s1)) (fun k => by rw [m_TreeInsert.f, if_pos ⟨hl2, List.all_eq_true.2 (fun x hx => by rw [zJ (hn2 x hx).1, zJ (hn2 x hx).2]; rfl)⟩]) (Ev.now _)
 obtain ⟨hz1, hz2⟩ := insM_ok (cvT l) s1 hl2 hn2
 have hb := (mkT_bd (cvT l) hn2 1).1
 have hb2 := (mkT_bd (insM (cvT l) s1).2 hz2 1).1
 exact walk_FnExactTreeInsert A c l s1 r (cvT l) _ _ _ _ _ _ w hr hc hs (by omega) hT hv hv (eqTR_ev _ _ hz1 hz2) (eqTree_ev (cvT l) hl2 hn2) (markT_ev (cvT l) hn2 hl2) (by omega) (markT_ev _ hz2 hz1) (by omega) (heldTR_ev _ _ hz2 hz1) (by omega)
end Go.Proofs.Ytfjcfklgnlmjjaa.PB
