-- Made by this session's programs out of the translation and of its own texts.
import Derived.Test.YtfjcfklgnlmjjaaMFnExactTreeInsertb
namespace Go.Proofs.Ytfjcfklgnlmjjaa.PB
open Go.RowKit Go.Proofs.YtfjcfklgnlmjjaaW.PrintWords Go.Proofs.YtfjcfklgnlmjjaaW.PrintLast Go.Proofs.YtfjcfklgnlmjjaaW.PrintMore
attribute [local go_sem] max2_int min2_int max_two min_two max_three min_three max_four min_four   -- for this text's walks alone
set_option linter.unusedVariables false
set_option linter.unusedSimpArgs false

/-! ### laws_markInt64S: function 63 -/
def laws_markInt64S.l0 : Nat → List Int → Int → Int → Option (Int × List Int)
 | 0, _, _, _ => none
 | k + 1, x0, x1, x5 => if x5 < (x0.length : Int) then (if 0 ≤ x5 then (laws_markInt64S.l0 k (x0.set (x5 : Int).toNat x1) (wrap64 (x1 + 1)) (wrap64 (x5 + 1))) else (none)) else (some (x1, x0))
def laws_markInt64S.f (k : Nat) (l0 : List Int) (a1 : Int) : Option (Int × List Int) := laws_markInt64S.l0 k l0 a1 0
set_option maxHeartbeats 8000000 in
set_option maxRecDepth 100000 in
theorem laws_markInt64S.calls (k : Nat) (P0_ : Nat → Prop) (u9000_ : Value) (l0 : List Int) (a1 : Int) (r1 : Int) (r2 : List Int) (w0 w : World) (hB : Below w0.heap.size w0 w) (ho0 : Kd.R (Kd.int .i64) 2 w w0.heap.size P0_ u9000_ l0) (h : laws_markInt64S.f k l0 a1 = some (r1, r2)) :
  Calls Try.prog 63 #[u9000_, .int .i64 a1] w fun e w' => e = .returned (.int .i64 r1) ∧ Kd.R (Kd.int .i64) 2 w' w0.heap.size (fun k_ => (P0_ k_ ∨ w.heap.size ≤ k_)) u9000_ r2 ∧ Below w0.heap.size w0 w' ∧ Kept w w' (fun k_ => P0_ k_) := by
 have HO0 := zA (show Kd.R (Kd.int .i64) 2 w w0.heap.size (fun k_ => (P0_ k_ ∨ w.heap.size ≤ k_)) u9000_ l0 from yA ho0 (fun k_ hk => (.inl hk)))
 have HK := zA (Kept.refl w (fun k_ => P0_ k_))
 have HW0 := zA hB.size
 have HB := zA hB
 clear hB
 have H : (laws_markInt64S.l0 k l0 a1 0) = some (r1, r2) := h
 clear h
 have H' := zA H
 clear H
 go_enter Try.func63, Try.ntmps63
 go_wp2
 go_loopg [1, 5] k (fun kq v1 v5 w' => ∃ (x0_1 : List Int) (x1_1 : Int) (x5_1 : Int), v1 = .int .i64 x1_1 ∧ v5 = .int .i64 x5_1 ∧ Aside0 (laws_markInt64S.l0 kq x0_1 x1_1 x5_1 = some (r1, r2)) ∧ Aside0 (kq ≤ k) ∧ Aside0 (Kd.R (Kd.int .i64) 2 w' w0.heap.size (fun k_ => (P0_ k_ ∨ w.heap.size ≤ k_)) u9000_ x0_1) ∧ Aside0 (Kept w w' (fun k_ => P0_ k_)) ∧ Aside0 (Below w0.heap.size w0 w'))
 case atStart => exact ⟨(l0), (a1), (0), wF, wF, H', ⟨zY _⟩, ⟨wK HO0.out⟩, ⟨by repeat (first | (with_reducible first | exact HK.out | apply Kept.alloc | apply Kept.drewN | apply Kept.drew) | exact HK.out)⟩, ⟨wA⟩⟩
 case round =>
  clear H'
  try clear p2
  obtain ⟨x0_1, x1_1, x5_1, rfl, rfl, HA, HK1, HO_0, HK, HB⟩ := hrel
  cases gk with
  | zero => exact absurd HA.out (by simp [laws_markInt64S.l0])
  | succ k1 =>
    have H := HA.out
    clear HA
    simp only [laws_markInt64S.l0] at H
    by_cases c3 : x5_1 < (x0_1.length : Int)
    ·rw [if_pos c3] at H
     have c3b0 : decide (x5_1 < (x0_1.length : Int)) = true := zJ c3
     clear c3
     by_cases c4 : 0 ≤ x5_1
     ·rw [if_pos c4] at H
      have c4b0 : decide (0 ≤ x5_1) = true := zJ c4
      clear c4
      obtain ⟨y300, hy300⟩ : ∃ y_ : List Int, y_ = (x0_1.set (x5_1 : Int).toNat x1_1) := ⟨_, rfl⟩
      replace H : (laws_markInt64S.l0 k1 y300 (wrap64 (x1_1 + 1)) (wrap64 (x5_1 + 1))) = some (r1, r2) := wO hy300 H
      have Ny300 := zA hy300
      clear hy300
      have H' := zA H
      clear H
      obtain ⟨Ao6, co6, eo6⟩ := Kd.R_slice HO_0.out
      subst eo6
      have p5 : 0 ≤ (x5_1 : Int) := zI wE
      have q5 : (x5_1 : Int) < ((x0_1.length : Int) : Int) := zI wE
      obtain ⟨go5, co5, eo5, gb5, gl5, cl5, HG5⟩ := Kd.R_form HO_0.out (by omega)
      (first | cases eo5 | (injection eo5 with ea_ en_ ec_; (first | subst ea_ | (injection ea_ with ea_; subst ea_)); subst ec_; clear en_))
      have GB5 := zA gb5
      have GG5 := zA HG5
      clear gb5 gl5 HG5
      have HMgo5 := zA (show (P0_ go5 ∨ w.heap.size ≤ go5) from (HO_0.out.1 _ rfl))
      obtain ⟨hx5_0, hf5_0⟩ := Kd.R_celln 0 HO_0.out (x5_1 : Int) p5 q5
      replace p5 := eq_true p5
      replace q5 := eq_true q5
      have HP7 := Kd.R_putg HO_0.out (x5_1 : Int) x1_1
      go_wp2_with (first | ((with_reducible refine gate_store (t := 2) (p := 15) rfl ?_); refine store_event (t := 2) (p := 15) (v := ?vo_w8) (w1 := (wr.setCell ⟨go5, (x5_1 : Int).toNat, none⟩ (.int .i64 x1_1))) ?hg ?ho ?hn ?hr ?_; (case ho => rfl); (case hg => rfl); (case hn => rfl); (case hr => first | (go_simp; done) | (go_simp; rfl)); intro w8 hw; have hg : wr.grownBy w8 (some go5) := (by rw [hw]; exact HP7.2); have hp_ : Kd.R (Kd.int .i64) 2 w8 w0.heap.size (fun k_ => (P0_ k_ ∨ w.heap.size ≤ k_)) (.slice (some ⟨go5, 0, none⟩) x0_1.length co6) y300 := (by rw [hw, Ny300.out]; exact HP7.1); clear HP7; have n0_ := zA (hp_); have n1_ := zA ((by rw [hw]; exact below_set (HB.out) GB5.out : Below w0.heap.size w0 w8)); have n2_ := zA (Kept.of_grown (S := (fun k_ => P0_ k_)) hg (by repeat (first | (with_reducible first | exact HK.out | apply Kept.alloc | apply Kept.drewN | apply Kept.drew) | exact HK.out)) (fun k_ e_ => (HO_0.out.1 k_ e_))); clear HO_0; clear HB; clear HK; have HO_0 := n0_; have HB := n1_; have HK := n2_; clear n0_ n1_ n2_; clear hg hw hp_))
      go_roundg k1
      case measure => have := HK1.out; omega
      case rel => exact ⟨(y300), (wrap64 (x1_1 + 1)), (wrap64 (x5_1 + 1)), wF, wF, H', ⟨by have := HK1.out; omega⟩, ⟨wK HO_0.out⟩, ⟨by repeat (first | (with_reducible first | exact HK.out | apply Kept.alloc | apply Kept.drewN | apply Kept.drew) | exact HK.out)⟩, ⟨wA⟩⟩
     ·rw [if_neg c4] at H
      exact absurd H (by simp)
    ·rw [if_neg c3] at H
     have c3b0 : decide (x5_1 < (x0_1.length : Int)) = false := zK c3
     clear c3
     simp only [Option.some.injEq, Prod.mk.injEq] at H
     obtain ⟨rfl, rfl⟩ := H
     obtain ⟨Ao9, co9, eo9⟩ := Kd.R_slice HO_0.out
     subst eo9
     go_wp2
     go_ret
     exact ⟨wG, wK HO_0.out, wA, by repeat (first | (with_reducible first | exact HK.out | apply Kept.alloc | apply Kept.drewN | apply Kept.drew) | exact HK.out)⟩

/-! ### laws_heldStringS: function 25 -/
def laws_heldStringS.l0 : Nat → List ByteArray → Int → Int → Option (Int)
 | 0, _, _, _ => none
 | k + 1, x0, x1, x5 => if x5 < (x0.length : Int) then (if 0 ≤ x5 then ((laws_markText.f k x1).bind fun t305 => (if (rdOf ByteArray.empty x0 x5).toList = t305.toList then (laws_heldStringS.l0 k x0 (wrap64 (x1 + 1)) (wrap64 (x5 + 1))) else (some (-1)))) else (none)) else (some x1)
def laws_heldStringS.f (k : Nat) (l0 : List ByteArray) (a1 : Int) : Option (Int) := laws_heldStringS.l0 k l0 a1 0
set_option maxHeartbeats 8000000 in
set_option maxRecDepth 100000 in
theorem laws_heldStringS.calls (k : Nat) (A0 : Option Addr) (c0 : Nat) (l0 : List ByteArray) (a1 : Int) (r : Int) (w : World) (hr0 : Kd.C Kd.string w A0 l0.length l0) (hc0 : l0.length ≤ c0) (h : laws_heldStringS.f k l0 a1 = some r) :
  Calls Try.prog 25 #[.slice A0 l0.length c0, .int .i64 a1] w fun e w' => e = .returned (.int .i64 r) ∧ Below w.heap.size w w' := by
 have HR0 := zA hr0
 have HC0 := zA hc0
 clear hr0 hc0
 have HB := zA (zZ w.heap.size w)
 have H : (laws_heldStringS.l0 k l0 a1 0) = some r := h
 clear h
 have H' := zA H
 clear H
 go_enter Try.func25, Try.ntmps25
 go_wp2
 go_loopg [1, 5] k (fun kq v1 v5 w' => ∃ (x1_1 : Int) (x5_1 : Int), v1 = .int .i64 x1_1 ∧ v5 = .int .i64 x5_1 ∧ Aside0 (laws_heldStringS.l0 kq l0 x1_1 x5_1 = some r) ∧ Aside0 (kq ≤ k) ∧ Aside0 (Below w.heap.size w w'))
 case atStart => exact ⟨(a1), (0), wF, wF, H', ⟨zY _⟩, ⟨wA⟩⟩
 case round =>
  clear H'
  try clear c2
  try clear p2
  obtain ⟨x1_1, x5_1, rfl, rfl, HA, HK1, HB⟩ := hrel
  cases gk with
  | zero => exact absurd HA.out (by simp [laws_heldStringS.l0])
  | succ k1 =>
    have H := HA.out
    clear HA
    simp only [laws_heldStringS.l0] at H
    by_cases c3 : x5_1 < (l0.length : Int)
    ·rw [if_pos c3] at H
     have c3b0 : decide (x5_1 < (l0.length : Int)) = true := zJ c3
     clear c3
     by_cases c4 : 0 ≤ x5_1
     ·rw [if_pos c4] at H
      have c4b0 : decide (0 ≤ x5_1) = true := zJ c4
      clear c4
      replace H := Option.bind_eq_some_iff.mp H
      obtain ⟨t305, A50, H⟩ := H
      replace H : (if (rdOf ByteArray.empty l0 x5_1).toList = t305.toList then (laws_heldStringS.l0 k1 l0 (wrap64 (x1_1 + 1)) (wrap64 (x5_1 + 1))) else (some (-1))) = some r := H
      have A5 := zA A50
      clear A50
      by_cases c6 : (rdOf ByteArray.empty l0 x5_1).toList = t305.toList
      ·rw [if_pos c6] at H
       have c6b0 : ((rdOf ByteArray.empty l0 x5_1).toList == t305.toList) = true := beq_iff_eq.mpr c6
       have c6b1 : ((rdOf ByteArray.empty l0 x5_1).toList != t305.toList) = false := bne_eq_false_iff_eq.mpr c6
       clear c6
       have H' := zA H
       clear H
       try go_wp2
       have n0_ := zA (zC HB.out)
       clear HB
       have HB := n0_
       clear n0_
       have p304 : 0 ≤ (x5_1 : Int) := zI wE
       have q304 : x5_1 < (l0.length : Int) := zI wE
       obtain ⟨ad304, e304, hx304_0⟩ := Kd.at_string HR0.out x5_1 p304 q304
       have hw304_0 := hx304_0
       cases e304
       replace hx304_0 := (HB.out.cell (zM w _ hx304_0)).trans hx304_0
       replace p304 := eq_true p304
       replace q304 := eq_true q304
       refine start_ (n := 7) (S := fun w' => w'.cell? (ad304.add (x5_1).toNat) = some (.string (rdOf ByteArray.empty l0 x5_1))) (ds := []) #[false, false, false, false, false, false, false] (by kernel_rfl) rfl rfl (((HB.out.cell (zM w _ hw304_0)).trans hw304_0)) (fun hHeld => ?_)
       generalize wr.drew = w7 at HB hx304_0 hHeld ⊢
       refine pure_ (i := 0) (N := some 12) (v := ?_) (a' := ?_) #[true, false, false, false, false, false, false] rfl rfl (by kernel_rfl) (fun _ _ _ h => h) (Or.inl ⟨by rfl, ?_⟩) ?_ ?_
       rotate_left
       · intro w'
         go_simp
         with_reducible rfl
       rotate_left
       · simp only [Act.put, zN, zO, zP, i64_w, i32_w]
         rfl
       refine pure_ (i := 1) (N := some 13) (v := ?_) (a' := ?_) #[true, true, false, false, false, false, false] rfl rfl (by kernel_rfl) (fun _ _ _ h => h) (Or.inl ⟨by rfl, ?_⟩) ?_ ?_
       rotate_left
       · intro w'
         go_simp
         with_reducible rfl
       rotate_left
       · simp only [Act.put, zN, zO, zP, i64_w, i32_w]
         rfl
       refine pure_ (i := 2) (N := some 14) (v := ?_) (a' := ?_) #[true, true, true, false, false, false, false] rfl rfl (by kernel_rfl) (fun _ _ _ h => h) (Or.inl ⟨by rfl, ?_⟩) ?_ ?_
       rotate_left
       · intro w'
         go_simp
         with_reducible rfl
       rotate_left
       · simp only [Act.put, zN, zO, zP, i64_w, i32_w]
         rfl
       refine pure_ (i := 4) (N := some 16) (v := ?_) (a' := ?_) #[true, true, true, false, true, false, false] rfl rfl (by kernel_rfl) (fun _ _ _ h => h) (Or.inl ⟨by rfl, ?_⟩) ?_ ?_
       rotate_left
       · intro w'
         go_simp
         with_reducible rfl
       rotate_left
       · simp only [Act.put, zN, zO, zP, i64_w, i32_w]
         rfl
       refine take_ (i := 3) (N := some 15) (v := ?_) (a' := ?_) #[true, true, true, true, true, false, false] rfl rfl (by kernel_rfl) (fun _ _ _ h => h) (Or.inl ⟨by rfl, ?_⟩) hHeld ?_ ?_
       rotate_left
       · intro w' s0
         go_simp
         with_reducible rfl
       rotate_left
       · simp only [Act.put, zN, zO, zP, i64_w, i32_w]
         rfl
       refine one_ (i := 5) (N := some 17) #[true, true, true, true, true, true, false] rfl rfl (by kernel_rfl) (by decide) (fun K hK => ?_)
       refine goes_ Try.func51 (by kernel_rfl) rfl #[.int .i64 x1_1] (by rfl) rfl rfl wH ?_
       with_reducible refine (laws_markText.calls k1 x1_1 t305 _ A5.out).mono ?_
       rintro e w8 ⟨rfl, hb⟩
       refine ⟨_, rfl, ?_⟩
       have n0_ := zA (zU wA hb)
       clear HB
       have HB := n0_
       clear n0_
       (try clear hb)
       (try clear hb2)
       (try clear hk)
       (try clear hi)
       refine hK.out _ _ (((HB.out.cell (zM w _ hw304_0)).trans hw304_0)) (fun hHeld => ?_)
       clear hK K
       refine norm_ (a' := ?_) ?_ ?_
       rotate_left
       · show Act.put _ (some 17) _ = _
         simp only [Act.put, zN, zO, zP, i64_w, i32_w]
         rfl
       refine pure_ (i := 6) (N := some 18) (v := ?_) (a' := ?_) #[true, true, true, true, true, true, true] rfl rfl (by kernel_rfl) (fun _ _ _ h => h) (Or.inl ⟨by rfl, ?_⟩) ?_ ?_
       rotate_left
       · intro w'
         go_simp
         with_reducible rfl
       rotate_left
       · simp only [Act.put, zN, zO, zP, i64_w, i32_w]
         rfl
       refine done_ (by kernel_rfl) ?_
       try go_wp2
       go_roundg k1
       case measure => have := HK1.out; omega
       case rel => exact ⟨(wrap64 (x1_1 + 1)), (wrap64 (x5_1 + 1)), wF, wF, H', ⟨by have := HK1.out; omega⟩, ⟨wA⟩⟩
      ·rw [if_neg c6] at H
       have c6b0 : ((rdOf ByteArray.empty l0 x5_1).toList == t305.toList) = false := beq_eq_false_iff_ne.mpr c6
       have c6b1 : ((rdOf ByteArray.empty l0 x5_1).toList != t305.toList) = true := bne_iff_ne.mpr c6
       obtain rfl := zL H
       try go_wp2
       have n0_ := zA (zC HB.out)
       clear HB
       have HB := n0_
       clear n0_
       have p304 : 0 ≤ (x5_1 : Int) := zI wE
       have q304 : x5_1 < (l0.length : Int) := zI wE
       obtain ⟨ad304, e304, hx304_0⟩ := Kd.at_string HR0.out x5_1 p304 q304
       have hw304_0 := hx304_0
       cases e304
       replace hx304_0 := (HB.out.cell (zM w _ hx304_0)).trans hx304_0
       replace p304 := eq_true p304
       replace q304 := eq_true q304
       refine start_ (n := 7) (S := fun w' => w'.cell? (ad304.add (x5_1).toNat) = some (.string (rdOf ByteArray.empty l0 x5_1))) (ds := []) #[false, false, false, false, false, false, false] (by kernel_rfl) rfl rfl (((HB.out.cell (zM w _ hw304_0)).trans hw304_0)) (fun hHeld => ?_)
       generalize wr.drew = w9 at HB hx304_0 hHeld ⊢
       refine pure_ (i := 0) (N := some 12) (v := ?_) (a' := ?_) #[true, false, false, false, false, false, false] rfl rfl (by kernel_rfl) (fun _ _ _ h => h) (Or.inl ⟨by rfl, ?_⟩) ?_ ?_
       rotate_left
       · intro w'
         go_simp
         with_reducible rfl
       rotate_left
       · simp only [Act.put, zN, zO, zP, i64_w, i32_w]
         rfl
       refine pure_ (i := 1) (N := some 13) (v := ?_) (a' := ?_) #[true, true, false, false, false, false, false] rfl rfl (by kernel_rfl) (fun _ _ _ h => h) (Or.inl ⟨by rfl, ?_⟩) ?_ ?_
       rotate_left
       · intro w'
         go_simp
         with_reducible rfl
       rotate_left
       · simp only [Act.put, zN, zO, zP, i64_w, i32_w]
         rfl
       refine pure_ (i := 2) (N := some 14) (v := ?_) (a' := ?_) #[true, true, true, false, false, false, false] rfl rfl (by kernel_rfl) (fun _ _ _ h => h) (Or.inl ⟨by rfl, ?_⟩) ?_ ?_
       rotate_left
       · intro w'
         go_simp
         with_reducible rfl
       rotate_left
       · simp only [Act.put, zN, zO, zP, i64_w, i32_w]
         rfl
       refine pure_ (i := 4) (N := some 16) (v := ?_) (a' := ?_) #[true, true, true, false, true, false, false] rfl rfl (by kernel_rfl) (fun _ _ _ h => h) (Or.inl ⟨by rfl, ?_⟩) ?_ ?_
       rotate_left
       · intro w'
         go_simp
         with_reducible rfl
       rotate_left
       · simp only [Act.put, zN, zO, zP, i64_w, i32_w]
         rfl
       refine take_ (i := 3) (N := some 15) (v := ?_) (a' := ?_) #[true, true, true, true, true, false, false] rfl rfl (by kernel_rfl) (fun _ _ _ h => h) (Or.inl ⟨by rfl, ?_⟩) hHeld ?_ ?_
       rotate_left
       · intro w' s0
         go_simp
         with_reducible rfl
       rotate_left
       · simp only [Act.put, zN, zO, zP, i64_w, i32_w]
         rfl
       refine one_ (i := 5) (N := some 17) #[true, true, true, true, true, true, false] rfl rfl (by kernel_rfl) (by decide) (fun K hK => ?_)
       refine goes_ Try.func51 (by kernel_rfl) rfl #[.int .i64 x1_1] (by rfl) rfl rfl wH ?_
       with_reducible refine (laws_markText.calls k1 x1_1 t305 _ A5.out).mono ?_
       rintro e w10 ⟨rfl, hb⟩
       refine ⟨_, rfl, ?_⟩
       have n0_ := zA (zU wA hb)
       clear HB
       have HB := n0_
       clear n0_
       (try clear hb)
       (try clear hb2)
       (try clear hk)
       (try clear hi)
       refine hK.out _ _ (((HB.out.cell (zM w _ hw304_0)).trans hw304_0)) (fun hHeld => ?_)
       clear hK K
       refine norm_ (a' := ?_) ?_ ?_
       rotate_left
       · show Act.put _ (some 17) _ = _
         simp only [Act.put, zN, zO, zP, i64_w, i32_w]
         rfl
       refine pure_ (i := 6) (N := some 18) (v := ?_) (a' := ?_) #[true, true, true, true, true, true, true] rfl rfl (by kernel_rfl) (fun _ _ _ h => h) (Or.inl ⟨by rfl, ?_⟩) ?_ ?_
       rotate_left
       · intro w'
         go_simp
         with_reducible rfl
       rotate_left
       · simp only [Act.put, zN, zO, zP, i64_w, i32_w]
         rfl
       refine done_ (by kernel_rfl) ?_
       try go_wp2
       go_ret
       exact ⟨wG, wA⟩
     ·rw [if_neg c4] at H
      exact absurd H (by simp)
    ·rw [if_neg c3] at H
     have c3b0 : decide (x5_1 < (l0.length : Int)) = false := zK c3
     clear c3
     obtain rfl := zL H
     go_wp2
     go_ret
     exact ⟨wG, wA⟩

/-! ### spec_l3Holds: function 52 -/
def spec_l3Holds.l0 : Nat → List ByteArray → ByteArray → Int → Option (Bool)
 | 0, _, _, _ => none
 | k + 1, x0, x1, x5 => if x5 < (x0.length : Int) then (if 0 ≤ x5 then (if (rdOf ByteArray.empty x0 x5).toList = x1.toList then (some true) else (spec_l3Holds.l0 k x0 x1 (wrap64 (x5 + 1)))) else (none)) else (some false)
def spec_l3Holds.f (k : Nat) (l0 : List ByteArray) (a1 : ByteArray) : Option (Bool) := spec_l3Holds.l0 k l0 a1 0
set_option maxHeartbeats 8000000 in
set_option maxRecDepth 100000 in
theorem spec_l3Holds.calls (k : Nat) (A0 : Option Addr) (c0 : Nat) (l0 : List ByteArray) (a1 : ByteArray) (r : Bool) (w : World) (hr0 : Kd.C Kd.string w A0 l0.length l0) (hc0 : l0.length ≤ c0) (h : spec_l3Holds.f k l0 a1 = some r) :
  Calls Try.prog 52 #[.slice A0 l0.length c0, .string a1] w fun e w' => e = .returned (.bool r) ∧ Drawn0 w w' := by
 have HR0 := zA hr0
 have HC0 := zA hc0
 clear hr0 hc0
 have H : (spec_l3Holds.l0 k l0 a1 0) = some r := h
 clear h
 have H' := zA H
 clear H
 go_enter Try.func52, Try.ntmps52
 go_wp2
 go_loopg [5] k (fun kq v5 w' => ∃ (x5_1 : Int), v5 = .int .i64 x5_1 ∧ Aside0 (spec_l3Holds.l0 kq l0 a1 x5_1 = some r) ∧ Aside0 (kq ≤ k) ∧ Drawn0 w w')
 case atStart => exact ⟨(0), wF, H', ⟨zY _⟩, wI⟩
 case round =>
  clear H'
  try clear p2
  obtain ⟨x5_1, rfl, HA, HK1, ⟨m1, rfl⟩⟩ := hrel
  cases gk with
  | zero => exact absurd HA.out (by simp [spec_l3Holds.l0])
  | succ k1 =>
    have H := HA.out
    clear HA
    simp only [spec_l3Holds.l0] at H
    by_cases c3 : x5_1 < (l0.length : Int)
    ·rw [if_pos c3] at H
     have c3b0 : decide (x5_1 < (l0.length : Int)) = true := zJ c3
     clear c3
     by_cases c4 : 0 ≤ x5_1
     ·rw [if_pos c4] at H
      have c4b0 : decide (0 ≤ x5_1) = true := zJ c4
      clear c4
      by_cases c5 : (rdOf ByteArray.empty l0 x5_1).toList = a1.toList
      ·rw [if_pos c5] at H
       have c5b0 : ((rdOf ByteArray.empty l0 x5_1).toList == a1.toList) = true := beq_iff_eq.mpr c5
       have c5b1 : ((rdOf ByteArray.empty l0 x5_1).toList != a1.toList) = false := bne_eq_false_iff_eq.mpr c5
       clear c5
       obtain rfl := zL H
       have p311 : 0 ≤ (x5_1 : Int) := zI wE
       have q311 : x5_1 < (l0.length : Int) := zI wE
       obtain ⟨ad311, e311, hx311_0⟩ := Kd.at_string HR0.out x5_1 p311 q311
       cases e311
       replace p311 := eq_true p311
       replace q311 := eq_true q311
       go_wp2
       go_ret
       exact ⟨wF, wI⟩
      ·rw [if_neg c5] at H
       have c5b0 : ((rdOf ByteArray.empty l0 x5_1).toList == a1.toList) = false := beq_eq_false_iff_ne.mpr c5
       have c5b1 : ((rdOf ByteArray.empty l0 x5_1).toList != a1.toList) = true := bne_iff_ne.mpr c5
       have H' := zA H
       clear H
       have p311 : 0 ≤ (x5_1 : Int) := zI wE
       have q311 : x5_1 < (l0.length : Int) := zI wE
       obtain ⟨ad311, e311, hx311_0⟩ := Kd.at_string HR0.out x5_1 p311 q311
       cases e311
       replace p311 := eq_true p311
       replace q311 := eq_true q311
       go_wp2
       go_roundg k1
       case measure => have := HK1.out; omega
       case rel => exact ⟨(wrap64 (x5_1 + 1)), wF, H', ⟨by have := HK1.out; omega⟩, wI⟩
     ·rw [if_neg c4] at H
      exact absurd H (by simp)
    ·rw [if_neg c3] at H
     have c3b0 : decide (x5_1 < (l0.length : Int)) = false := zK c3
     clear c3
     obtain rfl := zL H
     go_wp2
     go_ret
     exact ⟨wF, wI⟩

/-! ### spec_l3Copy: function 53 -/
def spec_l3Copy.l0 : Nat → Int → List (S90) → List (S90) → Option ((List (S90)))
 | 0, _, _, _ => none
 | k + 1, x4, x313000, x315000 => if x4 < (x313000.length : Int) then (if 0 ≤ x4 then ((some (([] : List ByteArray) : List ByteArray)).bind fun y317 => (if y317.length + ((rd_T90 x313000 x4).f1).length < 8796093022208 then ((some (([] : List Int) : List Int)).bind fun y323 => (if y323.length + ((rd_T90 x313000 x4).f2).length < 17592186044416 then (if x315000.length < 2199023255552 then (spec_l3Copy.l0 k (wrap64 (x4 + 1)) x313000 (x315000 ++ [(⟨(rd_T90 x313000 x4).f0, (y317 ++ ((rd_T90 x313000 x4).f1)), (y323 ++ ((rd_T90 x313000 x4).f2)), (rd_T90 x313000 x4).f3⟩ : S90)])) else (none)) else (none))) else (none))) else (none)) else (some x315000)
def spec_l3Copy.f (k : Nat) (l0_0 : List (S90)) : Option ((List (S90))) := spec_l3Copy.l0 k 0 l0_0 ([] : List (S90))
def spec_l3Copy.T6 : Bool × List (List Nat × List Nat) := (true, [([], []), ([0], [0]), ([], []), ([2], [2]), ([], []), ([], []), ([5], [5]), ([4, 6], [4, 6]), ([], []), ([], []), ([9], [9]), ([8, 10, 7], [8, 10]), ([], []), ([12], [12]), ([3, 7, 11, 13], [3, 7, 11, 13]), ([14], [14]), ([1, 15, 11], [1, 15]), ([0, 1, 2, 3, 4, 5, 6, 7, 8, 9, 10, 11, 12, 13, 14, 15, 16], []), ([17, 16, 16, 0, 1, 2, 3, 4, 5, 6, 7, 8, 9, 10, 11, 12, 13, 14, 15, 16], [16, 17])])
def spec_l3Copy.B6 : List Nat := [0, 1, 0, 4, 0, 0, 32, 112, 0, 0, 512, 2032, 0, 4096, 16380, 32764, 65535, 131071, 262143]
theorem spec_l3Copy.tab6 : rtab .any (opsOf Try.f53 6) = spec_l3Copy.T6 := by kernel_rfl
theorem spec_l3Copy.bits6 : waitsOk spec_l3Copy.T6.2 spec_l3Copy.B6 = true := by kernel_rfl
set_option maxHeartbeats 8000000 in
set_option maxRecDepth 100000 in
theorem spec_l3Copy.calls (k : Nat) (A0_0 : Option Addr) (c0_0 : Nat) (l0_0 : List (S90)) (r : List (S90)) (w : World) (hr0_0 : Kd.C k90 w A0_0 l0_0.length l0_0) (hc0_0 : l0_0.length ≤ c0_0) (h : spec_l3Copy.f k l0_0 = some r) :
  Calls Try.prog 53 #[.agg #[.slice A0_0 l0_0.length c0_0]] w fun e w' => ∃ v0_ : Value, e = .returned (.agg #[v0_]) ∧ Kd.S k90 90 w' w.heap.size (fun _ => True) v0_ r ∧ Below w.heap.size w w' := by
 have hu24 := Try.underlying24
 have hu90 := Try.underlying90
 have HR0_0 := zA hr0_0
 have HC0_0 := zA hc0_0
 clear hr0_0 hc0_0
 have HB := zA (zZ w.heap.size w)
 have H : (spec_l3Copy.l0 k 0 l0_0 ([] : List (S90))) = some r := h
 clear h
 have H' := zA H
 clear H
 go_enter Try.func53, Try.ntmps53
 go_wp2_with (first | ((with_reducible refine gate_dst (N := 1) rfl ?_); refine box_event ?hg (N := 1) ?hd (cs := #[.slice A0_0 l0_0.length c0_0]) (t := 24) ?hr ?_; (case hd => rfl); (case hg => rfl); (case hr => first | (go_simp; done) | (go_simp; rfl)); intro gb312 hg w2 hbox hb; have n0_ := zA (zU wA hb); have n1_ := zA (hbox); have n2_ := zA ((by rw [hg]; exact (zV wA) : w.heap.size ≤ gb312)); have n3_ := zA ((by rw [hg]; exact (zV wA) : w.heap.size ≤ gb312)); clear HB; have HB := n0_; have BK312 := n1_; have GW312 := n2_; have GE312 := n3_; clear n0_ n1_ n2_ n3_; clear hb hbox hg) | ((with_reducible refine gate_dst (N := 2) rfl ?_); refine box_event ?hg (N := 2) ?hd (cs := #[.slice none 0 0]) (t := 24) ?hr ?_; (case hd => rfl); (case hg => rfl); (case hr => first | (go_simp; done) | (go_simp; rfl)); intro gb313 hg w3 hbox hb; have n0_ := zA (zH (g := gb312) (o := .cells #[.slice A0_0 l0_0.length c0_0] 24 (0, 0)) (wJ BK312.out) hb); have n1_ := zA (zU (wB GE312.out) hb); have n2_ := zA (hbox); have n3_ := zA ((by rw [hg]; exact (zV (wB GE312.out)) : w.heap.size ≤ gb313)); have n4_ := zA ((by rw [hg]; exact (zV (wB GE312.out)) : w.heap.size ≤ gb313)); have n5_ := zA ((by rw [hg]; exact Nat.ne_of_lt (blk_lt (g := gb312) (o := .cells #[.slice A0_0 l0_0.length c0_0] 24 (0, 0)) (wJ BK312.out)) : gb312 ≠ gb313)); have n6_ := zA ((by rw [hg]; exact Nat.ne_of_gt (blk_lt (g := gb312) (o := .cells #[.slice A0_0 l0_0.length c0_0] 24 (0, 0)) (wJ BK312.out)) : gb313 ≠ gb312)); clear BK312; clear HB; have BK312 := n0_; have HB := n1_; have BK313 := n2_; have GW313 := n3_; have GE313 := n4_; have NB312_313 := n5_; have NB313_312 := n6_; clear n0_ n1_ n2_ n3_ n4_ n5_ n6_; clear hb hbox hg) | ((with_reducible refine gate_dst (N := 3) rfl ?_); refine box_event ?hg (N := 3) ?hd (cs := #[.slice none 0 0]) (t := 24) ?hr ?_; (case hd => rfl); (case hg => rfl); (case hr => first | (go_simp; done) | (go_simp; rfl)); intro gb314 hg w4 hbox hb; have n0_ := zA (zH (g := gb312) (o := .cells #[.slice A0_0 l0_0.length c0_0] 24 (0, 0)) (wJ BK312.out) hb); have n1_ := zA (zH (g := gb313) (o := .cells #[.slice none 0 0] 24 (0, 0)) (wJ BK313.out) hb); have n2_ := zA (zU (wC GE312.out GE313.out) hb); have n3_ := zA (hbox); have n4_ := zA ((by rw [hg]; exact (zV (wC GE312.out GE313.out)) : w.heap.size ≤ gb314)); have n5_ := zA ((by rw [hg]; exact (zV (wC GE312.out GE313.out)) : w.heap.size ≤ gb314)); have n6_ := zA ((by rw [hg]; exact Nat.ne_of_lt (blk_lt (g := gb312) (o := .cells #[.slice A0_0 l0_0.length c0_0] 24 (0, 0)) (wJ BK312.out)) : gb312 ≠ gb314)); have n7_ := zA ((by rw [hg]; exact Nat.ne_of_gt (blk_lt (g := gb312) (o := .cells #[.slice A0_0 l0_0.length c0_0] 24 (0, 0)) (wJ BK312.out)) : gb314 ≠ gb312)); have n8_ := zA ((by rw [hg]; exact Nat.ne_of_lt (blk_lt (g := gb313) (o := .cells #[.slice none 0 0] 24 (0, 0)) (wJ BK313.out)) : gb313 ≠ gb314)); have n9_ := zA ((by rw [hg]; exact Nat.ne_of_gt (blk_lt (g := gb313) (o := .cells #[.slice none 0 0] 24 (0, 0)) (wJ BK313.out)) : gb314 ≠ gb313)); clear BK312; clear BK313; clear HB; have BK312 := n0_; have BK313 := n1_; have HB := n2_; have BK314 := n3_; have GW314 := n4_; have GE314 := n5_; have NB312_314 := n6_; have NB314_312 := n7_; have NB313_314 := n8_; have NB314_313 := n9_; clear n0_ n1_ n2_ n3_ n4_ n5_ n6_ n7_ n8_ n9_; clear hb hbox hg; have hnb5 := NB314_312.out; have hnc5 := NB312_314.out; have hnb6 := NB314_313.out; have hnc6 := NB313_314.out; have hcz7_0 : w4.cell? ⟨gb314, 0, none⟩ = some (.slice none 0 0) := (blk_cell BK314.out 0).trans rfl; have hfz7_0 := zG BK314.out 0))
 go_loopg [4] k (fun kq v4 w' => ∃ (x4_1 : Int) (x315000_1 : List (S90)) (u315000 : Value), v4 = .int .i64 x4_1 ∧ Aside0 (spec_l3Copy.l0 kq x4_1 l0_0 x315000_1 = some r) ∧ Aside0 (kq ≤ k) ∧ Aside0 (Kd.S k90 90 w' w.heap.size (fun _ => True) u315000 x315000_1) ∧ Aside0 (w'.heap[gb312]? = some (.cells #[(.slice A0_0 l0_0.length c0_0)] 24 (0, 0))) ∧ Aside0 (w'.heap[gb313]? = some (.cells #[(.slice none 0 0)] 24 (0, 0))) ∧ Aside0 (w'.heap[gb314]? = some (.cells #[u315000] 24 (0, 0))) ∧ Aside0 (Below w.heap.size w w'))
 case atStart => exact ⟨(0), (([] : List (S90))), (.slice none 0 0), wF, H', ⟨zY _⟩, ⟨by first | exact Kd.S_nil _ _ _ _ _ | exact Kd.N_nil _ _ _ _ _ | exact Kd.V_nil _ _ _ _ _ | exact Kd.Q_nil _ _ _ _ _ | exact Kd.R_nil _ _ _ _ _⟩, ⟨by (with_reducible repeat (first | refine zD ?_ _ | refine zE ?_ | refine zF ?_ _)); refine blk_far ?_ NB312_314.out _; (with_reducible repeat (first | refine zD ?_ _ | refine zE ?_ | refine zF ?_ _)); exact BK312.out⟩, ⟨by (with_reducible repeat (first | refine zD ?_ _ | refine zE ?_ | refine zF ?_ _)); refine blk_far ?_ NB313_314.out _; (with_reducible repeat (first | refine zD ?_ _ | refine zE ?_ | refine zF ?_ _)); exact BK313.out⟩, ⟨by (with_reducible repeat (first | refine zD ?_ _ | refine zE ?_ | refine zF ?_ _)); refine blk_put (cs := #[.slice none 0 0]) ?_ 0 _ rfl; (with_reducible repeat (first | refine zD ?_ _ | refine zE ?_ | refine zF ?_ _)); exact BK314.out⟩, ⟨wD GE312.out GE313.out GE314.out⟩⟩
 case round =>
  clear H'
  try clear p2
  try clear c5
  try clear c6
  try clear hcz7_0
  try clear hfz7_0
  obtain ⟨x4_1, x315000_1, u315000, rfl, HA, HK1, HO_315000, BK312, BK313, BK314, HB⟩ := hrel
  cases gk with
  | zero => exact absurd HA.out (by simp [spec_l3Copy.l0])
  | succ k1 =>
    have H := HA.out
    clear HA
    simp only [spec_l3Copy.l0] at H
    by_cases c8 : x4_1 < (l0_0.length : Int)
    ·rw [if_pos c8] at H
     have c8b0 : decide (x4_1 < (l0_0.length : Int)) = true := zJ c8
     clear c8
     by_cases c9 : 0 ≤ x4_1
     ·rw [if_pos c9] at H
      have c9b0 : decide (0 ≤ x4_1) = true := zJ c9
      clear c9
      obtain ⟨y317, hy317⟩ : ∃ y_ : List ByteArray, y_ = (([] : List ByteArray)) := ⟨_, rfl⟩
      replace H : (if y317.length + ((rd_T90 l0_0 x4_1).f1).length < 8796093022208 then ((some (([] : List Int) : List Int)).bind fun y323 => (if y323.length + ((rd_T90 l0_0 x4_1).f2).length < 17592186044416 then (if x315000_1.length < 2199023255552 then (spec_l3Copy.l0 k1 (wrap64 (x4_1 + 1)) l0_0 (x315000_1 ++ [(⟨(rd_T90 l0_0 x4_1).f0, (y317 ++ ((rd_T90 l0_0 x4_1).f1)), (y323 ++ ((rd_T90 l0_0 x4_1).f2)), (rd_T90 l0_0 x4_1).f3⟩ : S90)])) else (none)) else (none))) else (none)) = some r := wO hy317 H
      have Ny317 := zA hy317
      clear hy317
      by_cases c10 : y317.length + ((rd_T90 l0_0 x4_1).f1).length < 8796093022208
      ·rw [if_pos c10] at H
       have LMc10 := zA c10
       clear c10
       obtain ⟨y320, hy320⟩ : ∃ y_ : List ByteArray, y_ = (y317 ++ ((rd_T90 l0_0 x4_1).f1)) := ⟨_, rfl⟩
       replace H : ((some (([] : List Int) : List Int)).bind fun y323 => (if y323.length + ((rd_T90 l0_0 x4_1).f2).length < 17592186044416 then (if x315000_1.length < 2199023255552 then (spec_l3Copy.l0 k1 (wrap64 (x4_1 + 1)) l0_0 (x315000_1 ++ [(⟨(rd_T90 l0_0 x4_1).f0, y320, (y323 ++ ((rd_T90 l0_0 x4_1).f2)), (rd_T90 l0_0 x4_1).f3⟩ : S90)])) else (none)) else (none))) = some r := wO hy320 H
       have Ny320 := zA hy320
       clear hy320
       obtain ⟨y323, hy323⟩ : ∃ y_ : List Int, y_ = (([] : List Int)) := ⟨_, rfl⟩
       replace H : (if y323.length + ((rd_T90 l0_0 x4_1).f2).length < 17592186044416 then (if x315000_1.length < 2199023255552 then (spec_l3Copy.l0 k1 (wrap64 (x4_1 + 1)) l0_0 (x315000_1 ++ [(⟨(rd_T90 l0_0 x4_1).f0, y320, (y323 ++ ((rd_T90 l0_0 x4_1).f2)), (rd_T90 l0_0 x4_1).f3⟩ : S90)])) else (none)) else (none)) = some r := wO hy323 H
       have Ny323 := zA hy323
       clear hy323
       by_cases c11 : y323.length + ((rd_T90 l0_0 x4_1).f2).length < 17592186044416
       ·rw [if_pos c11] at H
        have LMc11 := zA c11
        clear c11
        obtain ⟨y326, hy326⟩ : ∃ y_ : List Int, y_ = (y323 ++ ((rd_T90 l0_0 x4_1).f2)) := ⟨_, rfl⟩
        replace H : (if x315000_1.length < 2199023255552 then (spec_l3Copy.l0 k1 (wrap64 (x4_1 + 1)) l0_0 (x315000_1 ++ [(⟨(rd_T90 l0_0 x4_1).f0, y320, y326, (rd_T90 l0_0 x4_1).f3⟩ : S90)])) else (none)) = some r := wO hy326 H
        have Ny326 := zA hy326
        clear hy326
        by_cases c12 : x315000_1.length < 2199023255552
        ·rw [if_pos c12] at H
         have LMc12 := zA c12
         clear c12
         obtain ⟨y329, hy329⟩ : ∃ y_ : List (S90), y_ = (x315000_1 ++ [(⟨(rd_T90 l0_0 x4_1).f0, y320, y326, (rd_T90 l0_0 x4_1).f3⟩ : S90)]) := ⟨_, rfl⟩
         replace H : (spec_l3Copy.l0 k1 (wrap64 (x4_1 + 1)) l0_0 y329) = some r := wO hy329 H
         have Ny329 := zA hy329
         clear hy329
         have H' := zA H
         clear H
         have hnb13 := NB312_313.out
         have hnc13 := NB313_312.out
         have hnb14 := NB312_314.out
         have hnc14 := NB314_312.out
         have hcz15_0 : wr.cell? ⟨gb312, 0, none⟩ = some (.slice A0_0 l0_0.length c0_0) := (blk_cell BK312.out 0).trans rfl
         have hfz15_0 := zG BK312.out 0
         have p315 : 0 ≤ (x4_1 : Int) := zI wE
         have q315 : x4_1 < (l0_0.length : Int) := zI wE
         obtain ⟨ad315, A315_1, c315_1, A315_2, c315_2, e315, hx315_0, hx315_1, hx315_2, hx315_3, hl315_1, hi315_1, hl315_2, hi315_2⟩ := at_T90 HR0_0.out x4_1 p315 q315
         cases e315
         replace hx315_0 := (HB.out.cell (zM w _ hx315_0)).trans hx315_0
         replace hx315_1 := (HB.out.cell (zM w _ hx315_1)).trans hx315_1
         replace hx315_2 := (HB.out.cell (zM w _ hx315_2)).trans hx315_2
         replace hx315_3 := (HB.out.cell (zM w _ hx315_3)).trans hx315_3
         have HR315_1 := zA hi315_1
         have HC315_1 := zA hl315_1
         clear hi315_1 hl315_1
         have HR315_2 := zA hi315_2
         have HC315_2 := zA hl315_2
         clear hi315_2 hl315_2
         replace p315 := eq_true p315
         replace q315 := eq_true q315
         try go_wp2_with (first | ((with_reducible refine gate_dst (N := 5) rfl ?_); refine box_event ?hg (N := 5) ?hd (cs := #[.bool false, .slice none 0 0, .slice none 0 0, .int .i64 0]) (t := 90) ?hr ?_; (case hd => rfl); (case hg => rfl); (case hr => first | (go_simp; done) | (go_simp; rfl)); intro gb316 hg w16 hbox hb; have n0_ := zA (Kd.S_below (Kd.S_elderB (wM HO_315000.out) gb316 (Nat.le_of_eq hg.symm)) hb); have n1_ := zA (zH (g := gb312) (o := .cells #[.slice (some ad315) l0_0.length c0_0] 24 (0, 0)) (wJ BK312.out) hb); have n2_ := zA (zH (g := gb313) (o := .cells #[.slice none 0 0] 24 (0, 0)) (wJ BK313.out) hb); have n3_ := zA (zH (g := gb314) (o := .cells #[u315000] 24 (0, 0)) (wJ BK314.out) hb); have n4_ := zA (zU (wD GE312.out GE313.out GE314.out) hb); have n5_ := zA (hbox); have n6_ := zA ((by rw [hg]; exact (zV (wD GE312.out GE313.out GE314.out)) : w.heap.size ≤ gb316)); have n7_ := zA ((by rw [hg]; exact (zV (wD GE312.out GE313.out GE314.out)) : w.heap.size ≤ gb316)); have n8_ := zA ((by rw [hg]; exact Nat.ne_of_lt (blk_lt (g := gb312) (o := .cells #[.slice (some ad315) l0_0.length c0_0] 24 (0, 0)) (wJ BK312.out)) : gb312 ≠ gb316)); have n9_ := zA ((by rw [hg]; exact Nat.ne_of_gt (blk_lt (g := gb312) (o := .cells #[.slice (some ad315) l0_0.length c0_0] 24 (0, 0)) (wJ BK312.out)) : gb316 ≠ gb312)); have n10_ := zA ((by rw [hg]; exact Nat.ne_of_lt (blk_lt (g := gb313) (o := .cells #[.slice none 0 0] 24 (0, 0)) (wJ BK313.out)) : gb313 ≠ gb316)); have n11_ := zA ((by rw [hg]; exact Nat.ne_of_gt (blk_lt (g := gb313) (o := .cells #[.slice none 0 0] 24 (0, 0)) (wJ BK313.out)) : gb316 ≠ gb313)); have n12_ := zA ((by rw [hg]; exact Nat.ne_of_lt (blk_lt (g := gb314) (o := .cells #[u315000] 24 (0, 0)) (wJ BK314.out)) : gb314 ≠ gb316)); have n13_ := zA ((by rw [hg]; exact Nat.ne_of_gt (blk_lt (g := gb314) (o := .cells #[u315000] 24 (0, 0)) (wJ BK314.out)) : gb316 ≠ gb314)); clear HO_315000; clear BK312; clear BK313; clear BK314; clear HB; have HO_315000 := n0_; have BK312 := n1_; have BK313 := n2_; have BK314 := n3_; have HB := n4_; have BK316 := n5_; have GW316 := n6_; have GE316 := n7_; have NB312_316 := n8_; have NB316_312 := n9_; have NB313_316 := n10_; have NB316_313 := n11_; have NB314_316 := n12_; have NB316_314 := n13_; clear n0_ n1_ n2_ n3_ n4_ n5_ n6_ n7_ n8_ n9_ n10_ n11_ n12_ n13_; clear hb hbox hg; have hnb17 := NB316_312.out; have hnc17 := NB312_316.out; have hnb18 := NB316_313.out; have hnc18 := NB313_316.out; have hnb19 := NB316_314.out; have hnc19 := NB314_316.out; have hcz20_0 : w16.cell? ⟨gb316, 0, none⟩ = some (.bool false) := (blk_cell BK316.out 0).trans rfl; have hcz20_1 : w16.cell? ⟨gb316, 1, none⟩ = some (.slice none 0 0) := (blk_cell BK316.out 1).trans rfl; have hcz20_2 : w16.cell? ⟨gb316, 2, none⟩ = some (.slice none 0 0) := (blk_cell BK316.out 2).trans rfl; have hcz20_3 : w16.cell? ⟨gb316, 3, none⟩ = some (.int .i64 0) := (blk_cell BK316.out 3).trans rfl; have hfz20_0 := zG BK316.out 0; have hfz20_1 := zG BK316.out 1; have hfz20_2 := zG BK316.out 2; have hfz20_3 := zG BK316.out 3; obtain ⟨Ao21, co21, eo21⟩ := Kd.S_slice HO_315000.out; subst eo21))
         have n0_ : Aside0 (Kd.S k90 90 ((((w16.setCell ⟨gb316, 0, none⟩ (.bool ((rd_T90 l0_0 x4_1).f0))).setCell ⟨gb316, 1, none⟩ (.slice A315_1 ((rd_T90 l0_0 x4_1).f1).length c315_1)).setCell ⟨gb316, 2, none⟩ (.slice A315_2 ((rd_T90 l0_0 x4_1).f2).length c315_2)).setCell ⟨gb316, 3, none⟩ (.int .i64 ((rd_T90 l0_0 x4_1).f3))) w.heap.size (fun k_ => k_ ≠ gb316) (.slice Ao21 x315000_1.length co21) x315000_1) := ⟨by (with_reducible repeat (first | apply Kd.S_alloc | apply Kd.S_drewN | apply Kd.S_drew)); exact yB (Kd.S_far (p := ⟨gb316, 3, none⟩) (Kd.S_far (p := ⟨gb316, 2, none⟩) (Kd.S_far (p := ⟨gb316, 1, none⟩) (Kd.S_far (p := ⟨gb316, 0, none⟩) (yB HO_315000.out (fun k_ hk => (⟨hk, hk.2⟩ : _ ∧ k_ ≠ gb316))) (fun _ hk => hk.2) (.bool ((rd_T90 l0_0 x4_1).f0))) (fun _ hk => hk.2) (.slice A315_1 ((rd_T90 l0_0 x4_1).f1).length c315_1)) (fun _ hk => hk.2) (.slice A315_2 ((rd_T90 l0_0 x4_1).f2).length c315_2)) (fun _ hk => hk.2) (.int .i64 ((rd_T90 l0_0 x4_1).f3))) (fun _ hk => hk.1.2)⟩
         have n1_ : Aside0 (((((w16.setCell ⟨gb316, 0, none⟩ (.bool ((rd_T90 l0_0 x4_1).f0))).setCell ⟨gb316, 1, none⟩ (.slice A315_1 ((rd_T90 l0_0 x4_1).f1).length c315_1)).setCell ⟨gb316, 2, none⟩ (.slice A315_2 ((rd_T90 l0_0 x4_1).f2).length c315_2)).setCell ⟨gb316, 3, none⟩ (.int .i64 ((rd_T90 l0_0 x4_1).f3))).heap[gb312]? = some (.cells #[.slice (some ad315) l0_0.length c0_0] 24 (0, 0))) := ⟨by (with_reducible repeat (first | refine zD ?_ _ | refine zE ?_ | refine zF ?_ _)); refine blk_far ?_ NB312_316.out _; (with_reducible repeat (first | refine zD ?_ _ | refine zE ?_ | refine zF ?_ _)); refine blk_far ?_ NB312_316.out _; (with_reducible repeat (first | refine zD ?_ _ | refine zE ?_ | refine zF ?_ _)); refine blk_far ?_ NB312_316.out _; (with_reducible repeat (first | refine zD ?_ _ | refine zE ?_ | refine zF ?_ _)); refine blk_far ?_ NB312_316.out _; (with_reducible repeat (first | refine zD ?_ _ | refine zE ?_ | refine zF ?_ _)); exact BK312.out⟩
         have n2_ : Aside0 (((((w16.setCell ⟨gb316, 0, none⟩ (.bool ((rd_T90 l0_0 x4_1).f0))).setCell ⟨gb316, 1, none⟩ (.slice A315_1 ((rd_T90 l0_0 x4_1).f1).length c315_1)).setCell ⟨gb316, 2, none⟩ (.slice A315_2 ((rd_T90 l0_0 x4_1).f2).length c315_2)).setCell ⟨gb316, 3, none⟩ (.int .i64 ((rd_T90 l0_0 x4_1).f3))).heap[gb313]? = some (.cells #[.slice none 0 0] 24 (0, 0))) := ⟨by (with_reducible repeat (first | refine zD ?_ _ | refine zE ?_ | refine zF ?_ _)); refine blk_far ?_ NB313_316.out _; (with_reducible repeat (first | refine zD ?_ _ | refine zE ?_ | refine zF ?_ _)); refine blk_far ?_ NB313_316.out _; (with_reducible repeat (first | refine zD ?_ _ | refine zE ?_ | refine zF ?_ _)); refine blk_far ?_ NB313_316.out _; (with_reducible repeat (first | refine zD ?_ _ | refine zE ?_ | refine zF ?_ _)); refine blk_far ?_ NB313_316.out _; (with_reducible repeat (first | refine zD ?_ _ | refine zE ?_ | refine zF ?_ _)); exact BK313.out⟩
         have n3_ : Aside0 (((((w16.setCell ⟨gb316, 0, none⟩ (.bool ((rd_T90 l0_0 x4_1).f0))).setCell ⟨gb316, 1, none⟩ (.slice A315_1 ((rd_T90 l0_0 x4_1).f1).length c315_1)).setCell ⟨gb316, 2, none⟩ (.slice A315_2 ((rd_T90 l0_0 x4_1).f2).length c315_2)).setCell ⟨gb316, 3, none⟩ (.int .i64 ((rd_T90 l0_0 x4_1).f3))).heap[gb314]? = some (.cells #[.slice Ao21 x315000_1.length co21] 24 (0, 0))) := ⟨by (with_reducible repeat (first | refine zD ?_ _ | refine zE ?_ | refine zF ?_ _)); refine blk_far ?_ NB314_316.out _; (with_reducible repeat (first | refine zD ?_ _ | refine zE ?_ | refine zF ?_ _)); refine blk_far ?_ NB314_316.out _; (with_reducible repeat (first | refine zD ?_ _ | refine zE ?_ | refine zF ?_ _)); refine blk_far ?_ NB314_316.out _; (with_reducible repeat (first | refine zD ?_ _ | refine zE ?_ | refine zF ?_ _)); refine blk_far ?_ NB314_316.out _; (with_reducible repeat (first | refine zD ?_ _ | refine zE ?_ | refine zF ?_ _)); exact BK314.out⟩
         have n4_ : Aside0 (((((w16.setCell ⟨gb316, 0, none⟩ (.bool ((rd_T90 l0_0 x4_1).f0))).setCell ⟨gb316, 1, none⟩ (.slice A315_1 ((rd_T90 l0_0 x4_1).f1).length c315_1)).setCell ⟨gb316, 2, none⟩ (.slice A315_2 ((rd_T90 l0_0 x4_1).f2).length c315_2)).setCell ⟨gb316, 3, none⟩ (.int .i64 ((rd_T90 l0_0 x4_1).f3))).heap[gb316]? = some (.cells #[.bool ((rd_T90 l0_0 x4_1).f0), .slice A315_1 ((rd_T90 l0_0 x4_1).f1).length c315_1, .slice A315_2 ((rd_T90 l0_0 x4_1).f2).length c315_2, .int .i64 ((rd_T90 l0_0 x4_1).f3)] 90 (0, 0))) := ⟨by (with_reducible repeat (first | refine zD ?_ _ | refine zE ?_ | refine zF ?_ _)); refine blk_put (cs := #[.bool ((rd_T90 l0_0 x4_1).f0), .slice A315_1 ((rd_T90 l0_0 x4_1).f1).length c315_1, .slice A315_2 ((rd_T90 l0_0 x4_1).f2).length c315_2, .int .i64 0]) ?_ 3 _ rfl; (with_reducible repeat (first | refine zD ?_ _ | refine zE ?_ | refine zF ?_ _)); refine blk_put (cs := #[.bool ((rd_T90 l0_0 x4_1).f0), .slice A315_1 ((rd_T90 l0_0 x4_1).f1).length c315_1, .slice none 0 0, .int .i64 0]) ?_ 2 _ rfl; (with_reducible repeat (first | refine zD ?_ _ | refine zE ?_ | refine zF ?_ _)); refine blk_put (cs := #[.bool ((rd_T90 l0_0 x4_1).f0), .slice none 0 0, .slice none 0 0, .int .i64 0]) ?_ 1 _ rfl; (with_reducible repeat (first | refine zD ?_ _ | refine zE ?_ | refine zF ?_ _)); refine blk_put (cs := #[.bool false, .slice none 0 0, .slice none 0 0, .int .i64 0]) ?_ 0 _ rfl; (with_reducible repeat (first | refine zD ?_ _ | refine zE ?_ | refine zF ?_ _)); exact BK316.out⟩
         have n5_ : Aside0 (Below w.heap.size w ((((w16.setCell ⟨gb316, 0, none⟩ (.bool ((rd_T90 l0_0 x4_1).f0))).setCell ⟨gb316, 1, none⟩ (.slice A315_1 ((rd_T90 l0_0 x4_1).f1).length c315_1)).setCell ⟨gb316, 2, none⟩ (.slice A315_2 ((rd_T90 l0_0 x4_1).f2).length c315_2)).setCell ⟨gb316, 3, none⟩ (.int .i64 ((rd_T90 l0_0 x4_1).f3)))) := ⟨by repeat (first | (with_reducible first | exact HB.out | apply below_alloc | apply zB | apply zC | refine below_set ?_ GE312.out | refine below_set ?_ GE313.out | refine below_set ?_ GE314.out | refine below_set ?_ GE316.out) | exact HB.out)⟩
         (try clear HO_315000)
         (try clear BK312)
         (try clear BK313)
         (try clear BK314)
         (try clear BK316)
         (try clear HB)
         generalize ((((w16.setCell ⟨gb316, 0, none⟩ (.bool ((rd_T90 l0_0 x4_1).f0))).setCell ⟨gb316, 1, none⟩ (.slice A315_1 ((rd_T90 l0_0 x4_1).f1).length c315_1)).setCell ⟨gb316, 2, none⟩ (.slice A315_2 ((rd_T90 l0_0 x4_1).f2).length c315_2)).setCell ⟨gb316, 3, none⟩ (.int .i64 ((rd_T90 l0_0 x4_1).f3))) = w22 at n0_ n1_ n2_ n3_ n4_ n5_ ⊢
         have HO_315000 := n0_
         have BK312 := n1_
         have BK313 := n2_
         have BK314 := n3_
         have BK316 := n4_
         have HB := n5_
         clear n0_ n1_ n2_ n3_ n4_ n5_
         have n0_ := zA (Kd.S_drew HO_315000.out)
         have n1_ := zA (zE BK312.out)
         have n2_ := zA (zE BK313.out)
         have n3_ := zA (zE BK314.out)
         have n4_ := zA (zE BK316.out)
         have n5_ := zA (zC HB.out)
         clear HO_315000
         clear BK312
         clear BK313
         clear BK314
         clear BK316
         clear HB
         have HO_315000 := n0_
         have BK312 := n1_
         have BK313 := n2_
         have BK314 := n3_
         have BK316 := n4_
         have HB := n5_
         clear n0_ n1_ n2_ n3_ n4_ n5_
         refine start_ (n := 19) (S := fun w' => w'.cell? ⟨gb314, 0, none⟩ = some (.slice Ao21 x315000_1.length co21) ∧ w'.cell? ⟨gb316, 0, none⟩ = some (.bool ((rd_T90 l0_0 x4_1).f0)) ∧ w'.cell? ⟨gb316, 1, none⟩ = some (.slice A315_1 ((rd_T90 l0_0 x4_1).f1).length c315_1) ∧ w'.cell? ⟨gb316, 2, none⟩ = some (.slice A315_2 ((rd_T90 l0_0 x4_1).f2).length c315_2) ∧ w'.cell? ⟨gb316, 3, none⟩ = some (.int .i64 ((rd_T90 l0_0 x4_1).f3))) (ds := [18]) #[false, false, false, false, false, false, false, false, false, false, false, false, false, false, false, false, false, false, false] (by kernel_rfl) rfl rfl ⟨(blk_cell BK314.out 0).trans rfl, (blk_cell BK316.out 0).trans rfl, (blk_cell BK316.out 1).trans rfl, (blk_cell BK316.out 2).trans rfl, (blk_cell BK316.out 3).trans rfl⟩ (fun hHeld => ?_); refine with_tabW spec_l3Copy.tab6 spec_l3Copy.bits6 (fun HT_ HW_ => ?_)
         generalize w22.drew = w23 at HO_315000 BK312 BK313 BK314 BK316 HB hHeld ⊢
         refine pure_ (i := 0) (N := some 19) (v := ?_) (a' := ?_) #[true, false, false, false, false, false, false, false, false, false, false, false, false, false, false, false, false, false, false] rfl rfl (yM HT_.out (by kernel_rfl)) (fun _ _ _ h => h) (Or.inl ⟨by rfl, ?_⟩) ?_ ?_
         rotate_left
         · intro w'
           go_simp
           with_reducible rfl
         rotate_left
         · simp only [Act.put, zN, zO, zP, i64_w, i32_w]
           rfl
         refine pure_ (i := 2) (N := some 21) (v := ?_) (a' := ?_) #[true, false, true, false, false, false, false, false, false, false, false, false, false, false, false, false, false, false, false] rfl rfl (yM HT_.out (by kernel_rfl)) (fun _ _ _ h => h) (Or.inl ⟨by rfl, ?_⟩) ?_ ?_
         rotate_left
         · intro w'
           go_simp
           with_reducible rfl
         rotate_left
         · simp only [Act.put, zN, zO, zP, i64_w, i32_w]
           rfl
         refine pure_ (i := 5) (N := some 24) (v := ?_) (a' := ?_) #[true, false, true, false, false, true, false, false, false, false, false, false, false, false, false, false, false, false, false] rfl rfl (yM HT_.out (by kernel_rfl)) (fun _ _ _ h => h) (Or.inl ⟨by rfl, ?_⟩) ?_ ?_
         rotate_left
         · intro w'
           go_simp
           with_reducible rfl
         rotate_left
         · simp only [Act.put, zN, zO, zP, i64_w, i32_w]
           rfl
         refine pure_ (i := 9) (N := some 28) (v := ?_) (a' := ?_) #[true, false, true, false, false, true, false, false, false, true, false, false, false, false, false, false, false, false, false] rfl rfl (yM HT_.out (by kernel_rfl)) (fun _ _ _ h => h) (Or.inl ⟨by rfl, ?_⟩) ?_ ?_
         rotate_left
         · intro w'
           go_simp
           with_reducible rfl
         rotate_left
         · simp only [Act.put, zN, zO, zP, i64_w, i32_w]
           rfl
         refine pure_ (i := 12) (N := some 31) (v := ?_) (a' := ?_) #[true, false, true, false, false, true, false, false, false, true, false, false, true, false, false, false, false, false, false] rfl rfl (yM HT_.out (by kernel_rfl)) (fun _ _ _ h => h) (Or.inl ⟨by rfl, ?_⟩) ?_ ?_
         rotate_left
         · intro w'
           go_simp
           with_reducible rfl
         rotate_left
         · simp only [Act.put, zN, zO, zP, i64_w, i32_w]
           rfl
         refine take_ (i := 1) (N := some 20) (v := ?_) (a' := ?_) #[true, true, true, false, false, true, false, false, false, true, false, false, true, false, false, false, false, false, false] rfl rfl (yL HT_.out HW_.out (by kernel_rfl)) (fun _ _ _ h => h) (Or.inl ⟨by rfl, ?_⟩) hHeld ?_ ?_
         rotate_left
         · rintro w' ⟨s0, s1, s2, s3, s4⟩
           go_simp
           with_reducible rfl
         rotate_left
         · simp only [Act.put, zN, zO, zP, i64_w, i32_w]
           rfl
         refine take_ (i := 3) (N := some 22) (v := ?_) (a' := ?_) #[true, true, true, true, false, true, false, false, false, true, false, false, true, false, false, false, false, false, false] rfl rfl (yL HT_.out HW_.out (by kernel_rfl)) (fun _ _ _ h => h) (Or.inl ⟨by rfl, ?_⟩) hHeld ?_ ?_
         rotate_left
         · rintro w' ⟨s0, s1, s2, s3, s4⟩
           go_simp
           with_reducible rfl
         rotate_left
         · simp only [Act.put, zN, zO, zP, i64_w, i32_w]
           rfl
         refine take_ (i := 6) (N := some 25) (v := ?_) (a' := ?_) #[true, true, true, true, false, true, true, false, false, true, false, false, true, false, false, false, false, false, false] rfl rfl (yL HT_.out HW_.out (by kernel_rfl)) (fun _ _ _ h => h) (Or.inl ⟨by rfl, ?_⟩) hHeld ?_ ?_
         rotate_left
         · rintro w' ⟨s0, s1, s2, s3, s4⟩
           go_simp
           with_reducible rfl
         rotate_left
         · simp only [Act.put, zN, zO, zP, i64_w, i32_w]
           rfl
         refine take_ (i := 10) (N := some 29) (v := ?_) (a' := ?_) #[true, true, true, true, false, true, true, false, false, true, true, false, true, false, false, false, false, false, false] rfl rfl (yL HT_.out HW_.out (by kernel_rfl)) (fun _ _ _ h => h) (Or.inl ⟨by rfl, ?_⟩) hHeld ?_ ?_
         rotate_left
         · rintro w' ⟨s0, s1, s2, s3, s4⟩
           go_simp
           with_reducible rfl
         rotate_left
         · simp only [Act.put, zN, zO, zP, i64_w, i32_w]
           rfl
         refine take_ (i := 13) (N := some 32) (v := ?_) (a' := ?_) #[true, true, true, true, false, true, true, false, false, true, true, false, true, true, false, false, false, false, false] rfl rfl (yL HT_.out HW_.out (by kernel_rfl)) (fun _ _ _ h => h) (Or.inl ⟨by rfl, ?_⟩) hHeld ?_ ?_
         rotate_left
         · rintro w' ⟨s0, s1, s2, s3, s4⟩
           go_simp
           with_reducible rfl
         rotate_left
         · simp only [Act.put, zN, zO, zP, i64_w, i32_w]
           rfl
         refine join_ (σ := Value × Value × Value) 6 #[true, true, true, true, true, true, true, true, true, true, true, false, true, true, false, false, false, false, false] (fun s_ => [(23, s_.1), (26, s_.2.1), (27, s_.2.2)]) (fun s_ w' => (w'.cell? ⟨gb314, 0, none⟩ = some (.slice Ao21 x315000_1.length co21) ∧ w'.cell? ⟨gb316, 0, none⟩ = some (.bool ((rd_T90 l0_0 x4_1).f0)) ∧ w'.cell? ⟨gb316, 1, none⟩ = some (.slice A315_1 ((rd_T90 l0_0 x4_1).f1).length c315_1) ∧ w'.cell? ⟨gb316, 2, none⟩ = some (.slice A315_2 ((rd_T90 l0_0 x4_1).f2).length c315_2) ∧ w'.cell? ⟨gb316, 3, none⟩ = some (.int .i64 ((rd_T90 l0_0 x4_1).f3))) ∧ (Kd.R Kd.string 9 w' w.heap.size (fun _ => True) s_.2.1 y320) ∧ (Kd.R (Kd.int .i64) 2 w' w.heap.size (fun _ => True) s_.2.2 y323) ∧ (Kd.S k90 90 w' w.heap.size (fun k_ => some k_ ≠ (s_.2.1 : Value).ownBlock ∧ some k_ ≠ (s_.2.2 : Value).ownBlock ∧ k_ ≠ gb316) (.slice Ao21 x315000_1.length co21) x315000_1) ∧ (w'.heap[gb312]? = some (.cells #[.slice (some ad315) l0_0.length c0_0] 24 (0, 0))) ∧ (w'.heap[gb313]? = some (.cells #[.slice none 0 0] 24 (0, 0))) ∧ (w'.heap[gb314]? = some (.cells #[.slice Ao21 x315000_1.length co21] 24 (0, 0))) ∧ (w'.heap[gb316]? = some (.cells #[.bool ((rd_T90 l0_0 x4_1).f0), .slice A315_1 ((rd_T90 l0_0 x4_1).f1).length c315_1, .slice A315_2 ((rd_T90 l0_0 x4_1).f2).length c315_2, .int .i64 ((rd_T90 l0_0 x4_1).f3)] 90 (0, 0))) ∧ (Below w.heap.size w w')) ?_ ?_
         rotate_left
         · intro hCont
           refine two_ (i := 4) (j := 8) (Ni := some 23) (Nj := some 27) #[true, true, true, true, true, true, true, false, false, true, true, false, true, true, false, false, false, false, false] #[true, true, true, true, false, true, true, false, true, true, true, false, true, true, false, false, false, false, false] rfl rfl rfl rfl (two_of HT_.out (by kernel_rfl)) (by decide) (by decide) (fun K hK => ?_) (fun K hK => ?_)
           ·skip
            refine Kd.R_lit_step Kd.string _ 9 ?hg (N := 23) ?hd (xs := ([] : List ByteArray)) (inner := []) (ok := fun _ => True) (okp := fun _ => True) ?hr ?hp (fun _ hk => hk) trivial (zZ _ _) (zY _) (by simp) ?_; (case hd => rfl); (case hg => rfl); (case hr => first | (go_simp; done) | (go_simp; rfl)); (case hp => exact (Reps.none _ _))
            intro v318 w24 ho25 hb hg_ hnew_
            clear hg_ hnew_
            (first | rw [← Ny317.out] at ho25 | (simp only [Int.reduceToNat] at ho25; rw [← Ny317.out] at ho25))
            have n0_ := zA (Kd.S_elder' (wM HO_315000.out) (Kd.R_base ho25) hb)
            have n1_ := zA (Kd.R_lower ho25 (zV (by repeat (first | (with_reducible first | exact HB.out | apply below_alloc | apply zB | apply zC | refine below_set ?_ GE312.out | refine below_set ?_ GE313.out | refine below_set ?_ GE314.out | refine below_set ?_ GE316.out) | exact HB.out))))
            have n2_ := zA (zH (g := gb312) (o := .cells #[.slice (some ad315) l0_0.length c0_0] 24 (0, 0)) (wJ BK312.out) hb)
            have n3_ := zA (zH (g := gb313) (o := .cells #[.slice none 0 0] 24 (0, 0)) (wJ BK313.out) hb)
            have n4_ := zA (zH (g := gb314) (o := .cells #[.slice Ao21 x315000_1.length co21] 24 (0, 0)) (wJ BK314.out) hb)
            have n5_ := zA (zH (g := gb316) (o := .cells #[.bool ((rd_T90 l0_0 x4_1).f0), .slice A315_1 ((rd_T90 l0_0 x4_1).f1).length c315_1, .slice A315_2 ((rd_T90 l0_0 x4_1).f2).length c315_2, .int .i64 ((rd_T90 l0_0 x4_1).f3)] 90 (0, 0)) (wJ BK316.out) hb)
            have n6_ := zA (zU (by repeat (first | (with_reducible first | exact HB.out | apply below_alloc | apply zB | apply zC | refine below_set ?_ GE312.out | refine below_set ?_ GE313.out | refine below_set ?_ GE314.out | refine below_set ?_ GE316.out) | exact HB.out)) hb)
            clear HO_315000
            clear BK312
            clear BK313
            clear BK314
            clear BK316
            clear HB
            have HO_315000 := n0_
            have HO319 := n1_
            have BK312 := n2_
            have BK313 := n3_
            have BK314 := n4_
            have BK316 := n5_
            have HB := n6_
            clear n0_ n1_ n2_ n3_ n4_ n5_ n6_
            clear hb ho25
            refine hK.out _ _ ⟨(blk_cell BK314.out 0).trans rfl, (blk_cell BK316.out 0).trans rfl, (blk_cell BK316.out 1).trans rfl, (blk_cell BK316.out 2).trans rfl, (blk_cell BK316.out 3).trans rfl⟩ (fun hHeld => ?_)
            clear hK K
            refine norm_ (a' := ?_) ?_ ?_
            rotate_left
            · show Act.put _ (some 23) _ = _
              simp only [Act.put, zN, zO, zP, i64_w, i32_w]
              rfl
            refine two_ (i := 7) (j := 8) (Ni := some 26) (Nj := some 27) #[true, true, true, true, true, true, true, true, false, true, true, false, true, true, false, false, false, false, false] #[true, true, true, true, true, true, true, false, true, true, true, false, true, true, false, false, false, false, false] rfl rfl rfl rfl (two_of HT_.out (by kernel_rfl)) (by decide) (by decide) (fun K hK => ?_) (fun K hK => ?_)
            · skip
              refine Kd.R_append_rows_step Kd.string (w0 := w) w.heap.size (by rfl) (.tmp 23) (.tmp 25) 38 9 (.string ⟨#[]⟩) 16 rfl Try.underlying38 info9 rfl (by decide) (by omega) v318 y317 ((rd_T90 l0_0 x4_1).f1) _ _ _ (fun _ => True) (fun _ => False) rfl rfl ?aO ?aR (fun _ _ h => h) (fun _ h => h.elim) ?aF ?aB ?aS ?aL ?_
              (case aR => repeat (first | exact (zQ HR315_1.out HB.out) | (with_reducible refine zR ?_ _) | (with_reducible refine zS ?_ _) | (with_reducible refine zT ?_)))
              (case aB => exact (by repeat (first | (with_reducible first | exact HB.out | apply below_alloc | apply zB | apply zC | refine below_set ?_ GE312.out | refine below_set ?_ GE313.out | refine below_set ?_ GE314.out | refine below_set ?_ GE316.out) | exact HB.out)))
              (case aF => exact (fun _ _ => trivial))
              (case aO => exact (wK HO319.out))
              (case aS => exact (zV (by repeat (first | (with_reducible first | exact HB.out | apply below_alloc | apply zB | apply zC | refine below_set ?_ GE312.out | refine below_set ?_ GE313.out | refine below_set ?_ GE314.out | refine below_set ?_ GE316.out) | exact HB.out))))
              (case aL => have := LMc10.out; omega)
              intro v321 w26 ho hb hg hat
              rw [← Ny320.out] at ho
              have n0_ := zA (Kd.S_after (ok := (fun k_ => k_ ≠ gb316)) (wM HO_315000.out) hg hat)
              have n1_ := zA (blk_grown (g := gb312) (o := .cells #[.slice (some ad315) l0_0.length c0_0] 24 (0, 0)) (wJ BK312.out) hg (Kd.R_ne HO319.out BK312.out (by decide)))
              have n2_ := zA (blk_grown (g := gb313) (o := .cells #[.slice none 0 0] 24 (0, 0)) (wJ BK313.out) hg (Kd.R_ne HO319.out BK313.out (by decide)))
              have n3_ := zA (blk_grown (g := gb314) (o := .cells #[.slice Ao21 x315000_1.length co21] 24 (0, 0)) (wJ BK314.out) hg (Kd.R_ne HO319.out BK314.out (by decide)))
              have n4_ := zA (blk_grown (g := gb316) (o := .cells #[.bool ((rd_T90 l0_0 x4_1).f0), .slice A315_1 ((rd_T90 l0_0 x4_1).f1).length c315_1, .slice A315_2 ((rd_T90 l0_0 x4_1).f2).length c315_2, .int .i64 ((rd_T90 l0_0 x4_1).f3)] 90 (0, 0)) (wJ BK316.out) hg (Kd.R_ne HO319.out BK316.out (by decide)))
              have n5_ := zA (hb)
              have n6_ := zA (ho)
              clear HO_315000
              clear BK312
              clear BK313
              clear BK314
              clear BK316
              clear HB
              clear HO319
              have HO_315000 := n0_
              have BK312 := n1_
              have BK313 := n2_
              have BK314 := n3_
              have BK316 := n4_
              have HB := n5_
              have HO322 := n6_
              clear n0_ n1_ n2_ n3_ n4_ n5_ n6_
              clear ho hb hg hat
              refine hK.out _ _ ⟨(blk_cell BK314.out 0).trans rfl, (blk_cell BK316.out 0).trans rfl, (blk_cell BK316.out 1).trans rfl, (blk_cell BK316.out 2).trans rfl, (blk_cell BK316.out 3).trans rfl⟩ (fun hHeld => ?_)
              clear hK K
              refine norm_ (a' := ?_) ?_ ?_
              rotate_left
              · show Act.put _ (some 26) _ = _
                simp only [Act.put, zN, zO, zP, i64_w, i32_w]
                rfl
              refine one_ (i := 8) (N := some 27) #[true, true, true, true, true, true, true, true, true, true, true, false, true, true, false, false, false, false, false] rfl rfl (yN HT_.out (by kernel_rfl)) (by decide) (fun K hK => ?_)
              refine Kd.R_lit_step (Kd.int .i64) _ 2 ?hg (N := 27) ?hd (xs := ([] : List Int)) (inner := []) (ok := fun _ => True) (okp := fun _ => True) ?hr ?hp (fun _ hk => hk) trivial (zZ _ _) (zY _) (by simp) ?_; (case hd => rfl); (case hg => rfl); (case hr => first | (go_simp; done) | (go_simp; rfl)); (case hp => exact (Reps.none _ _))
              intro v324 w27 ho28 hb hg_ hnew_
              clear hg_ hnew_
              (first | rw [← Ny323.out] at ho28 | (simp only [Int.reduceToNat] at ho28; rw [← Ny323.out] at ho28))
              have n0_ := zA (Kd.S_elder' (wM HO_315000.out) (Kd.R_base ho28) hb)
              have n1_ := zA (Kd.R_below (wK HO322.out) hb)
              have n2_ := zA (Kd.R_lower ho28 (zV (by repeat (first | (with_reducible first | exact HB.out | apply below_alloc | apply zB | apply zC | refine below_set ?_ GE312.out | refine below_set ?_ GE313.out | refine below_set ?_ GE314.out | refine below_set ?_ GE316.out) | exact HB.out))))
              have n3_ := zA (zH (g := gb312) (o := .cells #[.slice (some ad315) l0_0.length c0_0] 24 (0, 0)) (wJ BK312.out) hb)
              have n4_ := zA (zH (g := gb313) (o := .cells #[.slice none 0 0] 24 (0, 0)) (wJ BK313.out) hb)
              have n5_ := zA (zH (g := gb314) (o := .cells #[.slice Ao21 x315000_1.length co21] 24 (0, 0)) (wJ BK314.out) hb)
              have n6_ := zA (zH (g := gb316) (o := .cells #[.bool ((rd_T90 l0_0 x4_1).f0), .slice A315_1 ((rd_T90 l0_0 x4_1).f1).length c315_1, .slice A315_2 ((rd_T90 l0_0 x4_1).f2).length c315_2, .int .i64 ((rd_T90 l0_0 x4_1).f3)] 90 (0, 0)) (wJ BK316.out) hb)
              have n7_ := zA (zU (by repeat (first | (with_reducible first | exact HB.out | apply below_alloc | apply zB | apply zC | refine below_set ?_ GE312.out | refine below_set ?_ GE313.out | refine below_set ?_ GE314.out | refine below_set ?_ GE316.out) | exact HB.out)) hb)
              clear HO_315000
              clear HO322
              clear BK312
              clear BK313
              clear BK314
              clear BK316
              clear HB
              have HO_315000 := n0_
              have HO322 := n1_
              have HO325 := n2_
              have BK312 := n3_
              have BK313 := n4_
              have BK314 := n5_
              have BK316 := n6_
              have HB := n7_
              clear n0_ n1_ n2_ n3_ n4_ n5_ n6_ n7_
              clear hb ho28
              refine hK.out _ _ ⟨(blk_cell BK314.out 0).trans rfl, (blk_cell BK316.out 0).trans rfl, (blk_cell BK316.out 1).trans rfl, (blk_cell BK316.out 2).trans rfl, (blk_cell BK316.out 3).trans rfl⟩ (fun hHeld => ?_)
              clear hK K
              refine norm_ (a' := ?_) ?_ ?_
              rotate_left
              · show Act.put _ (some 27) _ = _
                simp only [Act.put, zN, zO, zP, i64_w, i32_w]
                rfl
              exact norm_ (by simp only [putAll, Act.put, zN, zO, zP]) (hCont (v318, v321, v324) _ ⟨hHeld, (wK HO322.out), (wK HO325.out), (by (with_reducible repeat (first | apply Kd.S_alloc | apply Kd.S_drewN | apply Kd.S_drew)); exact yB HO_315000.out (fun _ hk => ⟨hk.1.2, ⟨hk.2, hk.1.1⟩⟩)), (wJ BK312.out), (wJ BK313.out), (wJ BK314.out), (wJ BK316.out), (by repeat (first | (with_reducible first | exact HB.out | apply below_alloc | apply zB | apply zC | refine below_set ?_ GE312.out | refine below_set ?_ GE313.out | refine below_set ?_ GE314.out | refine below_set ?_ GE316.out) | exact HB.out))⟩)
            · skip
              refine Kd.R_lit_step (Kd.int .i64) _ 2 ?hg (N := 27) ?hd (xs := ([] : List Int)) (inner := []) (ok := fun _ => True) (okp := fun _ => True) ?hr ?hp (fun _ hk => hk) trivial (zZ _ _) (zY _) (by simp) ?_; (case hd => rfl); (case hg => rfl); (case hr => first | (go_simp; done) | (go_simp; rfl)); (case hp => exact (Reps.none _ _))
              intro v324 w26 ho27 hb hg_ hnew_
              clear hg_ hnew_
              (first | rw [← Ny323.out] at ho27 | (simp only [Int.reduceToNat] at ho27; rw [← Ny323.out] at ho27))
              have n0_ := zA (Kd.S_elder' (wM HO_315000.out) (Kd.R_base ho27) hb)
              have n1_ := zA (Kd.R_below (wK HO319.out) hb)
              have n2_ := zA (Kd.R_lower ho27 (zV (by repeat (first | (with_reducible first | exact HB.out | apply below_alloc | apply zB | apply zC | refine below_set ?_ GE312.out | refine below_set ?_ GE313.out | refine below_set ?_ GE314.out | refine below_set ?_ GE316.out) | exact HB.out))))
              have n3_ := zA (zH (g := gb312) (o := .cells #[.slice (some ad315) l0_0.length c0_0] 24 (0, 0)) (wJ BK312.out) hb)
              have n4_ := zA (zH (g := gb313) (o := .cells #[.slice none 0 0] 24 (0, 0)) (wJ BK313.out) hb)
              have n5_ := zA (zH (g := gb314) (o := .cells #[.slice Ao21 x315000_1.length co21] 24 (0, 0)) (wJ BK314.out) hb)
              have n6_ := zA (zH (g := gb316) (o := .cells #[.bool ((rd_T90 l0_0 x4_1).f0), .slice A315_1 ((rd_T90 l0_0 x4_1).f1).length c315_1, .slice A315_2 ((rd_T90 l0_0 x4_1).f2).length c315_2, .int .i64 ((rd_T90 l0_0 x4_1).f3)] 90 (0, 0)) (wJ BK316.out) hb)
              have n7_ := zA (zU (by repeat (first | (with_reducible first | exact HB.out | apply below_alloc | apply zB | apply zC | refine below_set ?_ GE312.out | refine below_set ?_ GE313.out | refine below_set ?_ GE314.out | refine below_set ?_ GE316.out) | exact HB.out)) hb)
              clear HO_315000
              clear HO319
              clear BK312
              clear BK313
              clear BK314
              clear BK316
              clear HB
              have HO_315000 := n0_
              have HO319 := n1_
              have HO325 := n2_
              have BK312 := n3_
              have BK313 := n4_
              have BK314 := n5_
              have BK316 := n6_
              have HB := n7_
              clear n0_ n1_ n2_ n3_ n4_ n5_ n6_ n7_
              clear hb ho27
              refine hK.out _ _ ⟨(blk_cell BK314.out 0).trans rfl, (blk_cell BK316.out 0).trans rfl, (blk_cell BK316.out 1).trans rfl, (blk_cell BK316.out 2).trans rfl, (blk_cell BK316.out 3).trans rfl⟩ (fun hHeld => ?_)
              clear hK K
              refine norm_ (a' := ?_) ?_ ?_
              rotate_left
              · show Act.put _ (some 27) _ = _
                simp only [Act.put, zN, zO, zP, i64_w, i32_w]
                rfl
              refine one_ (i := 7) (N := some 26) #[true, true, true, true, true, true, true, true, true, true, true, false, true, true, false, false, false, false, false] rfl rfl (yN HT_.out (by kernel_rfl)) (by decide) (fun K hK => ?_)
              refine Kd.R_append_rows_step Kd.string (w0 := w) w.heap.size (by rfl) (.tmp 23) (.tmp 25) 38 9 (.string ⟨#[]⟩) 16 rfl Try.underlying38 info9 rfl (by decide) (by omega) v318 y317 ((rd_T90 l0_0 x4_1).f1) _ _ _ (fun _ => True) (fun _ => False) rfl rfl ?aO ?aR (fun _ _ h => h) (fun _ h => h.elim) ?aF ?aB ?aS ?aL ?_
              (case aR => repeat (first | exact (zQ HR315_1.out HB.out) | (with_reducible refine zR ?_ _) | (with_reducible refine zS ?_ _) | (with_reducible refine zT ?_)))
              (case aB => exact (by repeat (first | (with_reducible first | exact HB.out | apply below_alloc | apply zB | apply zC | refine below_set ?_ GE312.out | refine below_set ?_ GE313.out | refine below_set ?_ GE314.out | refine below_set ?_ GE316.out) | exact HB.out)))
              (case aF => exact (fun _ _ => trivial))
              (case aO => exact (wK HO319.out))
              (case aS => exact (zV (by repeat (first | (with_reducible first | exact HB.out | apply below_alloc | apply zB | apply zC | refine below_set ?_ GE312.out | refine below_set ?_ GE313.out | refine below_set ?_ GE314.out | refine below_set ?_ GE316.out) | exact HB.out))))
              (case aL => have := LMc10.out; omega)
              intro v321 w28 ho hb hg hat
              rw [← Ny320.out] at ho
              have n0_ := zA (Kd.S_after (ok := (fun k_ => some k_ ≠ (v324 : Value).ownBlock ∧ k_ ≠ gb316)) (by (with_reducible repeat (first | apply Kd.S_alloc | apply Kd.S_drewN | apply Kd.S_drew)); exact yB HO_315000.out (fun _ hk => ⟨⟨hk.2, hk.1.1⟩, hk.1.2⟩)) hg hat)
              have n1_ := zA (blk_grown (g := gb312) (o := .cells #[.slice (some ad315) l0_0.length c0_0] 24 (0, 0)) (wJ BK312.out) hg (Kd.R_ne HO319.out BK312.out (by decide)))
              have n2_ := zA (blk_grown (g := gb313) (o := .cells #[.slice none 0 0] 24 (0, 0)) (wJ BK313.out) hg (Kd.R_ne HO319.out BK313.out (by decide)))
              have n3_ := zA (blk_grown (g := gb314) (o := .cells #[.slice Ao21 x315000_1.length co21] 24 (0, 0)) (wJ BK314.out) hg (Kd.R_ne HO319.out BK314.out (by decide)))
              have n4_ := zA (blk_grown (g := gb316) (o := .cells #[.bool ((rd_T90 l0_0 x4_1).f0), .slice A315_1 ((rd_T90 l0_0 x4_1).f1).length c315_1, .slice A315_2 ((rd_T90 l0_0 x4_1).f2).length c315_2, .int .i64 ((rd_T90 l0_0 x4_1).f3)] 90 (0, 0)) (wJ BK316.out) hg (Kd.R_ne HO319.out BK316.out (by decide)))
              have n5_ := zA (Kd.R_over' (wK HO325.out) (Kd.R_typed (wK HO319.out)) (by decide) hg)
              have n6_ := zA (hb)
              have n7_ := zA (ho)
              clear HO_315000
              clear BK312
              clear BK313
              clear BK314
              clear BK316
              clear HO325
              clear HB
              clear HO319
              have HO_315000 := n0_
              have BK312 := n1_
              have BK313 := n2_
              have BK314 := n3_
              have BK316 := n4_
              have HO325 := n5_
              have HB := n6_
              have HO322 := n7_
              clear n0_ n1_ n2_ n3_ n4_ n5_ n6_ n7_
              clear ho hb hg hat
              refine hK.out _ _ ⟨(blk_cell BK314.out 0).trans rfl, (blk_cell BK316.out 0).trans rfl, (blk_cell BK316.out 1).trans rfl, (blk_cell BK316.out 2).trans rfl, (blk_cell BK316.out 3).trans rfl⟩ (fun hHeld => ?_)
              clear hK K
              refine norm_ (a' := ?_) ?_ ?_
              rotate_left
              · show Act.put _ (some 26) _ = _
                simp only [Act.put, zN, zO, zP, i64_w, i32_w]
                rfl
              exact norm_ (by simp only [putAll, Act.put, zN, zO, zP]) (hCont (v318, v321, v324) _ ⟨hHeld, (wK HO322.out), (wK HO325.out), (by (with_reducible repeat (first | apply Kd.S_alloc | apply Kd.S_drewN | apply Kd.S_drew)); exact yB HO_315000.out (fun _ hk => ⟨hk.2, ⟨hk.1.1, hk.1.2⟩⟩)), (wJ BK312.out), (wJ BK313.out), (wJ BK314.out), (wJ BK316.out), (by repeat (first | (with_reducible first | exact HB.out | apply below_alloc | apply zB | apply zC | refine below_set ?_ GE312.out | refine below_set ?_ GE313.out | refine below_set ?_ GE314.out | refine below_set ?_ GE316.out) | exact HB.out))⟩)
           ·skip
            refine Kd.R_lit_step (Kd.int .i64) _ 2 ?hg (N := 27) ?hd (xs := ([] : List Int)) (inner := []) (ok := fun _ => True) (okp := fun _ => True) ?hr ?hp (fun _ hk => hk) trivial (zZ _ _) (zY _) (by simp) ?_; (case hd => rfl); (case hg => rfl); (case hr => first | (go_simp; done) | (go_simp; rfl)); (case hp => exact (Reps.none _ _))
            intro v324 w24 ho25 hb hg_ hnew_
            clear hg_ hnew_
            (first | rw [← Ny323.out] at ho25 | (simp only [Int.reduceToNat] at ho25; rw [← Ny323.out] at ho25))
            have n0_ := zA (Kd.S_elder' (wM HO_315000.out) (Kd.R_base ho25) hb)
            have n1_ := zA (Kd.R_lower ho25 (zV (by repeat (first | (with_reducible first | exact HB.out | apply below_alloc | apply zB | apply zC | refine below_set ?_ GE312.out | refine below_set ?_ GE313.out | refine below_set ?_ GE314.out | refine below_set ?_ GE316.out) | exact HB.out))))
            have n2_ := zA (zH (g := gb312) (o := .cells #[.slice (some ad315) l0_0.length c0_0] 24 (0, 0)) (wJ BK312.out) hb)
            have n3_ := zA (zH (g := gb313) (o := .cells #[.slice none 0 0] 24 (0, 0)) (wJ BK313.out) hb)
            have n4_ := zA (zH (g := gb314) (o := .cells #[.slice Ao21 x315000_1.length co21] 24 (0, 0)) (wJ BK314.out) hb)
            have n5_ := zA (zH (g := gb316) (o := .cells #[.bool ((rd_T90 l0_0 x4_1).f0), .slice A315_1 ((rd_T90 l0_0 x4_1).f1).length c315_1, .slice A315_2 ((rd_T90 l0_0 x4_1).f2).length c315_2, .int .i64 ((rd_T90 l0_0 x4_1).f3)] 90 (0, 0)) (wJ BK316.out) hb)
            have n6_ := zA (zU (by repeat (first | (with_reducible first | exact HB.out | apply below_alloc | apply zB | apply zC | refine below_set ?_ GE312.out | refine below_set ?_ GE313.out | refine below_set ?_ GE314.out | refine below_set ?_ GE316.out) | exact HB.out)) hb)
            clear HO_315000
            clear BK312
            clear BK313
            clear BK314
            clear BK316
            clear HB
            have HO_315000 := n0_
            have HO325 := n1_
            have BK312 := n2_
            have BK313 := n3_
            have BK314 := n4_
            have BK316 := n5_
            have HB := n6_
            clear n0_ n1_ n2_ n3_ n4_ n5_ n6_
            clear hb ho25
            refine hK.out _ _ ⟨(blk_cell BK314.out 0).trans rfl, (blk_cell BK316.out 0).trans rfl, (blk_cell BK316.out 1).trans rfl, (blk_cell BK316.out 2).trans rfl, (blk_cell BK316.out 3).trans rfl⟩ (fun hHeld => ?_)
            clear hK K
            refine norm_ (a' := ?_) ?_ ?_
            rotate_left
            · show Act.put _ (some 27) _ = _
              simp only [Act.put, zN, zO, zP, i64_w, i32_w]
              rfl
            refine one_ (i := 4) (N := some 23) #[true, true, true, true, true, true, true, false, true, true, true, false, true, true, false, false, false, false, false] rfl rfl (yN HT_.out (by kernel_rfl)) (by decide) (fun K hK => ?_)
            refine Kd.R_lit_step Kd.string _ 9 ?hg (N := 23) ?hd (xs := ([] : List ByteArray)) (inner := []) (ok := fun _ => True) (okp := fun _ => True) ?hr ?hp (fun _ hk => hk) trivial (zZ _ _) (zY _) (by simp) ?_; (case hd => rfl); (case hg => rfl); (case hr => first | (go_simp; done) | (go_simp; rfl)); (case hp => exact (Reps.none _ _))
            intro v318 w26 ho27 hb hg_ hnew_
            clear hg_ hnew_
            (first | rw [← Ny317.out] at ho27 | (simp only [Int.reduceToNat] at ho27; rw [← Ny317.out] at ho27))
            have n0_ := zA (Kd.S_elder' (wM HO_315000.out) (Kd.R_base ho27) hb)
            have n1_ := zA (Kd.R_below (wK HO325.out) hb)
            have n2_ := zA (Kd.R_lower ho27 (zV (by repeat (first | (with_reducible first | exact HB.out | apply below_alloc | apply zB | apply zC | refine below_set ?_ GE312.out | refine below_set ?_ GE313.out | refine below_set ?_ GE314.out | refine below_set ?_ GE316.out) | exact HB.out))))
            have n3_ := zA (zH (g := gb312) (o := .cells #[.slice (some ad315) l0_0.length c0_0] 24 (0, 0)) (wJ BK312.out) hb)
            have n4_ := zA (zH (g := gb313) (o := .cells #[.slice none 0 0] 24 (0, 0)) (wJ BK313.out) hb)
            have n5_ := zA (zH (g := gb314) (o := .cells #[.slice Ao21 x315000_1.length co21] 24 (0, 0)) (wJ BK314.out) hb)
            have n6_ := zA (zH (g := gb316) (o := .cells #[.bool ((rd_T90 l0_0 x4_1).f0), .slice A315_1 ((rd_T90 l0_0 x4_1).f1).length c315_1, .slice A315_2 ((rd_T90 l0_0 x4_1).f2).length c315_2, .int .i64 ((rd_T90 l0_0 x4_1).f3)] 90 (0, 0)) (wJ BK316.out) hb)
            have n7_ := zA (zU (by repeat (first | (with_reducible first | exact HB.out | apply below_alloc | apply zB | apply zC | refine below_set ?_ GE312.out | refine below_set ?_ GE313.out | refine below_set ?_ GE314.out | refine below_set ?_ GE316.out) | exact HB.out)) hb)
            clear HO_315000
            clear HO325
            clear BK312
            clear BK313
            clear BK314
            clear BK316
            clear HB
            have HO_315000 := n0_
            have HO325 := n1_
            have HO319 := n2_
            have BK312 := n3_
            have BK313 := n4_
            have BK314 := n5_
            have BK316 := n6_
            have HB := n7_
            clear n0_ n1_ n2_ n3_ n4_ n5_ n6_ n7_
            clear hb ho27
            refine hK.out _ _ ⟨(blk_cell BK314.out 0).trans rfl, (blk_cell BK316.out 0).trans rfl, (blk_cell BK316.out 1).trans rfl, (blk_cell BK316.out 2).trans rfl, (blk_cell BK316.out 3).trans rfl⟩ (fun hHeld => ?_)
            clear hK K
            refine norm_ (a' := ?_) ?_ ?_
            rotate_left
            · show Act.put _ (some 23) _ = _
              simp only [Act.put, zN, zO, zP, i64_w, i32_w]
              rfl
            refine one_ (i := 7) (N := some 26) #[true, true, true, true, true, true, true, true, true, true, true, false, true, true, false, false, false, false, false] rfl rfl (yN HT_.out (by kernel_rfl)) (by decide) (fun K hK => ?_)
            refine Kd.R_append_rows_step Kd.string (w0 := w) w.heap.size (by rfl) (.tmp 23) (.tmp 25) 38 9 (.string ⟨#[]⟩) 16 rfl Try.underlying38 info9 rfl (by decide) (by omega) v318 y317 ((rd_T90 l0_0 x4_1).f1) _ _ _ (fun _ => True) (fun _ => False) rfl rfl ?aO ?aR (fun _ _ h => h) (fun _ h => h.elim) ?aF ?aB ?aS ?aL ?_
            (case aR => repeat (first | exact (zQ HR315_1.out HB.out) | (with_reducible refine zR ?_ _) | (with_reducible refine zS ?_ _) | (with_reducible refine zT ?_)))
            (case aB => exact (by repeat (first | (with_reducible first | exact HB.out | apply below_alloc | apply zB | apply zC | refine below_set ?_ GE312.out | refine below_set ?_ GE313.out | refine below_set ?_ GE314.out | refine below_set ?_ GE316.out) | exact HB.out)))
            (case aF => exact (fun _ _ => trivial))
            (case aO => exact (wK HO319.out))
            (case aS => exact (zV (by repeat (first | (with_reducible first | exact HB.out | apply below_alloc | apply zB | apply zC | refine below_set ?_ GE312.out | refine below_set ?_ GE313.out | refine below_set ?_ GE314.out | refine below_set ?_ GE316.out) | exact HB.out))))
            (case aL => have := LMc10.out; omega)
            intro v321 w28 ho hb hg hat
            rw [← Ny320.out] at ho
            have n0_ := zA (Kd.S_after (ok := (fun k_ => some k_ ≠ (v324 : Value).ownBlock ∧ k_ ≠ gb316)) (by (with_reducible repeat (first | apply Kd.S_alloc | apply Kd.S_drewN | apply Kd.S_drew)); exact yB HO_315000.out (fun _ hk => ⟨⟨hk.1.2, hk.1.1⟩, hk.2⟩)) hg hat)
            have n1_ := zA (blk_grown (g := gb312) (o := .cells #[.slice (some ad315) l0_0.length c0_0] 24 (0, 0)) (wJ BK312.out) hg (Kd.R_ne HO319.out BK312.out (by decide)))
            have n2_ := zA (blk_grown (g := gb313) (o := .cells #[.slice none 0 0] 24 (0, 0)) (wJ BK313.out) hg (Kd.R_ne HO319.out BK313.out (by decide)))
            have n3_ := zA (blk_grown (g := gb314) (o := .cells #[.slice Ao21 x315000_1.length co21] 24 (0, 0)) (wJ BK314.out) hg (Kd.R_ne HO319.out BK314.out (by decide)))
            have n4_ := zA (blk_grown (g := gb316) (o := .cells #[.bool ((rd_T90 l0_0 x4_1).f0), .slice A315_1 ((rd_T90 l0_0 x4_1).f1).length c315_1, .slice A315_2 ((rd_T90 l0_0 x4_1).f2).length c315_2, .int .i64 ((rd_T90 l0_0 x4_1).f3)] 90 (0, 0)) (wJ BK316.out) hg (Kd.R_ne HO319.out BK316.out (by decide)))
            have n5_ := zA (Kd.R_over' (wK HO325.out) (Kd.R_typed (wK HO319.out)) (by decide) hg)
            have n6_ := zA (hb)
            have n7_ := zA (ho)
            clear HO_315000
            clear BK312
            clear BK313
            clear BK314
            clear BK316
            clear HO325
            clear HB
            clear HO319
            have HO_315000 := n0_
            have BK312 := n1_
            have BK313 := n2_
            have BK314 := n3_
            have BK316 := n4_
            have HO325 := n5_
            have HB := n6_
            have HO322 := n7_
            clear n0_ n1_ n2_ n3_ n4_ n5_ n6_ n7_
            clear ho hb hg hat
            refine hK.out _ _ ⟨(blk_cell BK314.out 0).trans rfl, (blk_cell BK316.out 0).trans rfl, (blk_cell BK316.out 1).trans rfl, (blk_cell BK316.out 2).trans rfl, (blk_cell BK316.out 3).trans rfl⟩ (fun hHeld => ?_)
            clear hK K
            refine norm_ (a' := ?_) ?_ ?_
            rotate_left
            · show Act.put _ (some 26) _ = _
              simp only [Act.put, zN, zO, zP, i64_w, i32_w]
              rfl
            exact norm_ (by simp only [putAll, Act.put, zN, zO, zP]) (hCont (v318, v321, v324) _ ⟨hHeld, (wK HO322.out), (wK HO325.out), (by (with_reducible repeat (first | apply Kd.S_alloc | apply Kd.S_drewN | apply Kd.S_drew)); exact yB HO_315000.out (fun _ hk => ⟨hk.2, ⟨hk.1.1, hk.1.2⟩⟩)), (wJ BK312.out), (wJ BK313.out), (wJ BK314.out), (wJ BK316.out), (by repeat (first | (with_reducible first | exact HB.out | apply below_alloc | apply zB | apply zC | refine below_set ?_ GE312.out | refine below_set ?_ GE313.out | refine below_set ?_ GE314.out | refine below_set ?_ GE316.out) | exact HB.out))⟩)
         rintro ⟨v318, v321, v324⟩ w29 ⟨hS_, h0_, h1_, h2_, h3_, h4_, h5_, h6_, h7_⟩
         have n0_ : Aside0 (Kd.R Kd.string 9 w29 w.heap.size (fun _ => True) v321 y320) := ⟨h0_⟩
         have n1_ : Aside0 (Kd.R (Kd.int .i64) 2 w29 w.heap.size (fun _ => True) v324 y323) := ⟨h1_⟩
         have n2_ : Aside0 (Kd.S k90 90 w29 w.heap.size (fun k_ => some k_ ≠ (v321 : Value).ownBlock ∧ some k_ ≠ (v324 : Value).ownBlock ∧ k_ ≠ gb316) (.slice Ao21 x315000_1.length co21) x315000_1) := ⟨h2_⟩
         have n3_ : Aside0 (w29.heap[gb312]? = some (.cells #[.slice (some ad315) l0_0.length c0_0] 24 (0, 0))) := ⟨h3_⟩
         have n4_ : Aside0 (w29.heap[gb313]? = some (.cells #[.slice none 0 0] 24 (0, 0))) := ⟨h4_⟩
         have n5_ : Aside0 (w29.heap[gb314]? = some (.cells #[.slice Ao21 x315000_1.length co21] 24 (0, 0))) := ⟨h5_⟩
         have n6_ : Aside0 (w29.heap[gb316]? = some (.cells #[.bool ((rd_T90 l0_0 x4_1).f0), .slice A315_1 ((rd_T90 l0_0 x4_1).f1).length c315_1, .slice A315_2 ((rd_T90 l0_0 x4_1).f2).length c315_2, .int .i64 ((rd_T90 l0_0 x4_1).f3)] 90 (0, 0))) := ⟨h6_⟩
         have n7_ : Aside0 (Below w.heap.size w w29) := ⟨h7_⟩
         clear HO_315000
         clear BK312
         clear BK313
         clear BK314
         clear BK316
         clear HB
         clear h0_ h1_ h2_ h3_ h4_ h5_ h6_ h7_
         have HO322 := n0_
         have HO325 := n1_
         have HO_315000 := n2_
         have BK312 := n3_
         have BK313 := n4_
         have BK314 := n5_
         have BK316 := n6_
         have HB := n7_
         clear n0_ n1_ n2_ n3_ n4_ n5_ n6_ n7_
         have hHeld : w29.cell? ⟨gb314, 0, none⟩ = some (.slice Ao21 x315000_1.length co21) ∧ w29.cell? ⟨gb316, 0, none⟩ = some (.bool ((rd_T90 l0_0 x4_1).f0)) ∧ w29.cell? ⟨gb316, 1, none⟩ = some (.slice A315_1 ((rd_T90 l0_0 x4_1).f1).length c315_1) ∧ w29.cell? ⟨gb316, 2, none⟩ = some (.slice A315_2 ((rd_T90 l0_0 x4_1).f2).length c315_2) ∧ w29.cell? ⟨gb316, 3, none⟩ = some (.int .i64 ((rd_T90 l0_0 x4_1).f3)) := hS_
         refine norm_ (a' := ?_) ?_ ?_
         rotate_left
         · simp only [putAll, Act.put, zN, zO, zP]
           rfl
         refine one_ (i := 11) (N := some 30) #[true, true, true, true, true, true, true, true, true, true, true, true, true, true, false, false, false, false, false] rfl rfl (yN HT_.out (by kernel_rfl)) (by decide) (fun K hK => ?_)
         refine Kd.R_append_rows_step (Kd.int .i64) (w0 := w) w.heap.size (by rfl) (.tmp 27) (.tmp 29) 88 2 (.int .i64 0) 8 rfl Try.underlying88 info2 rfl (by decide) (by omega) v324 y323 ((rd_T90 l0_0 x4_1).f2) _ _ _ (fun _ => True) (fun _ => False) rfl rfl ?aO ?aR (fun _ _ h => h) (fun _ h => h.elim) ?aF ?aB ?aS ?aL ?_
         (case aR => repeat (first | exact (zQ HR315_2.out HB.out) | (with_reducible refine zR ?_ _) | (with_reducible refine zS ?_ _) | (with_reducible refine zT ?_)))
         (case aB => exact (by repeat (first | (with_reducible first | exact HB.out | apply below_alloc | apply zB | apply zC | refine below_set ?_ GE312.out | refine below_set ?_ GE313.out | refine below_set ?_ GE314.out | refine below_set ?_ GE316.out) | exact HB.out)))
         (case aF => exact (fun _ _ => trivial))
         (case aO => exact (wK HO325.out))
         (case aS => exact (zV (by repeat (first | (with_reducible first | exact HB.out | apply below_alloc | apply zB | apply zC | refine below_set ?_ GE312.out | refine below_set ?_ GE313.out | refine below_set ?_ GE314.out | refine below_set ?_ GE316.out) | exact HB.out))))
         (case aL => have := LMc11.out; omega)
         intro v327 w30 ho hb hg hat
         rw [← Ny326.out] at ho
         have n0_ := zA (Kd.S_after (ok := (fun k_ => some k_ ≠ (v321 : Value).ownBlock ∧ k_ ≠ gb316)) (by (with_reducible repeat (first | apply Kd.S_alloc | apply Kd.S_drewN | apply Kd.S_drew)); exact yB HO_315000.out (fun _ hk => ⟨⟨hk.1, hk.2.2⟩, hk.2.1⟩)) hg hat)
         have n1_ := zA (blk_grown (g := gb312) (o := .cells #[.slice (some ad315) l0_0.length c0_0] 24 (0, 0)) (wJ BK312.out) hg (Kd.R_ne HO325.out BK312.out (by decide)))
         have n2_ := zA (blk_grown (g := gb313) (o := .cells #[.slice none 0 0] 24 (0, 0)) (wJ BK313.out) hg (Kd.R_ne HO325.out BK313.out (by decide)))
         have n3_ := zA (blk_grown (g := gb314) (o := .cells #[.slice Ao21 x315000_1.length co21] 24 (0, 0)) (wJ BK314.out) hg (Kd.R_ne HO325.out BK314.out (by decide)))
         have n4_ := zA (blk_grown (g := gb316) (o := .cells #[.bool ((rd_T90 l0_0 x4_1).f0), .slice A315_1 ((rd_T90 l0_0 x4_1).f1).length c315_1, .slice A315_2 ((rd_T90 l0_0 x4_1).f2).length c315_2, .int .i64 ((rd_T90 l0_0 x4_1).f3)] 90 (0, 0)) (wJ BK316.out) hg (Kd.R_ne HO325.out BK316.out (by decide)))
         have n5_ := zA (Kd.R_over' (wK HO322.out) (Kd.R_typed (wK HO325.out)) (by decide) hg)
         have n6_ := zA (hb)
         have n7_ := zA (ho)
         clear HO_315000
         clear BK312
         clear BK313
         clear BK314
         clear BK316
         clear HO322
         clear HB
         clear HO325
         have HO_315000 := n0_
         have BK312 := n1_
         have BK313 := n2_
         have BK314 := n3_
         have BK316 := n4_
         have HO322 := n5_
         have HB := n6_
         have HO328 := n7_
         clear n0_ n1_ n2_ n3_ n4_ n5_ n6_ n7_
         clear ho hb hg hat
         obtain ⟨Ao31, co31, eo31⟩ := Kd.R_slice HO328.out
         (first | subst eo31 | (injection eo31 with f1_ f2_ f3_; have f4_ := f1_.symm; have f5_ := f3_.symm; clear f1_ f2_ f3_; subst f4_; subst f5_))
         obtain ⟨Ao32, co32, eo32⟩ := Kd.R_slice HO322.out
         (first | subst eo32 | (injection eo32 with f1_ f2_ f3_; have f4_ := f1_.symm; have f5_ := f3_.symm; clear f1_ f2_ f3_; subst f4_; subst f5_))
         refine hK.out _ _ ⟨(blk_cell BK314.out 0).trans rfl, (blk_cell BK316.out 0).trans rfl, (blk_cell BK316.out 1).trans rfl, (blk_cell BK316.out 2).trans rfl, (blk_cell BK316.out 3).trans rfl⟩ (fun hHeld => ?_)
         clear hK K
         refine norm_ (a' := ?_) ?_ ?_
         rotate_left
         · show Act.put _ (some 30) _ = _
           simp only [Act.put, zN, zO, zP, i64_w, i32_w]
           rfl
         refine pure_ (i := 14) (N := some 33) (v := ?_) (a' := ?_) #[true, true, true, true, true, true, true, true, true, true, true, true, true, true, true, false, false, false, false] rfl rfl (yM HT_.out (by kernel_rfl)) (fun _ _ _ h => h) (Or.inl ⟨by rfl, ?_⟩) ?_ ?_
         rotate_left
         · intro w'
           go_simp
           with_reducible rfl
         rotate_left
         · simp only [Act.put, zN, zO, zP, i64_w, i32_w]
           rfl
         refine one_ (i := 15) (N := some 34) #[true, true, true, true, true, true, true, true, true, true, true, true, true, true, true, true, false, false, false] rfl rfl (yN HT_.out (by kernel_rfl)) (by decide) (fun K hK => ?_)
         refine value_ (w1 := ?_) (v := ?_) (by rfl) rfl ?_ ?_
         rotate_left 2
         · go_simp
           constructor
           ·rfl
           ·rfl
         refine hK.out _ _ ⟨(blk_cell (zF BK314.out _) 0).trans rfl, (blk_cell (zF BK316.out _) 0).trans rfl, (blk_cell (zF BK316.out _) 1).trans rfl, (blk_cell (zF BK316.out _) 2).trans rfl, (blk_cell (zF BK316.out _) 3).trans rfl⟩ (fun hHeld => ?_)
         clear hK K
         refine norm_ (a' := ?_) ?_ ?_
         rotate_left
         · show Act.put _ (some 34) _ = _
           simp only [Act.put, zN, zO, zP, i64_w, i32_w]
           rfl
         refine one_ (i := 16) (N := some 35) #[true, true, true, true, true, true, true, true, true, true, true, true, true, true, true, true, true, false, false] rfl rfl (yN HT_.out (by kernel_rfl)) (by decide) (fun K hK => ?_)
         refine Kd.S_append_step k90 (w0 := w) w.heap.size (by rfl) (.tmp 20) (.tmp 34) 22 90 (.agg #[(.bool false), (.slice none 0 0), (.slice none 0 0), (.int .i64 0)]) 64 rfl Try.underlying22 info90 rfl (by decide) (by omega) (.slice Ao21 x315000_1.length co21) x315000_1 (⟨(rd_T90 l0_0 x4_1).f0, y320, y326, (rd_T90 l0_0 x4_1).f3⟩ : S90) [.bool ((rd_T90 l0_0 x4_1).f0), .slice Ao32 y320.length co32, .slice Ao31 y326.length co31, .int .i64 ((rd_T90 l0_0 x4_1).f3)] (fun k_ => k_ ≠ gb316) (fun k_ => some k_ = (.slice Ao32 y320.length co32 : Value).ownBlock ∨ some k_ = (.slice Ao31 y326.length co31 : Value).ownBlock) rfl rfl ?aP (fun k_ hk_ => hk_.elim (fun h_ => ((yA (ok' := fun k_ => ((fun k_ => k_ ≠ gb316)) k_ ∧ some k_ ≠ (.slice Ao21 x315000_1.length co21 : Value).ownBlock) (Kd.R_types (Kd.R_apart' (HO322.out) (Kd.S_typed HO_315000.out) (by decide)) BK316.out (by decide)) (fun k_ hk => ⟨hk.2, hk.1.2⟩))).1 k_ h_.symm) (fun h_ => ((yA (ok' := fun k_ => ((fun k_ => k_ ≠ gb316)) k_ ∧ some k_ ≠ (.slice Ao21 x315000_1.length co21 : Value).ownBlock) (Kd.R_types (Kd.R_apart' (HO328.out) (Kd.S_typed HO_315000.out) (by decide)) BK316.out (by decide)) (fun k_ hk => ⟨hk.2, hk.1.2⟩))).1 k_ h_.symm)) ?aF ?aO ?aB ?aS ?aL ?_
         (case aP => exact k90_mkM _ _ _ (⟨(rd_T90 l0_0 x4_1).f0, y320, y326, (rd_T90 l0_0 x4_1).f3⟩ : S90) (yA (Kd.R_tight rfl (yA (ok' := fun k_ => ((fun k_ => k_ ≠ gb316)) k_ ∧ some k_ ≠ (.slice Ao21 x315000_1.length co21 : Value).ownBlock) (Kd.R_types (Kd.R_apart' (HO322.out) (Kd.S_typed HO_315000.out) (by decide)) BK316.out (by decide)) (fun k_ hk => ⟨hk.2, hk.1.2⟩))) (fun _ h_ => Or.inl h_)) (yA (Kd.R_tight rfl (yA (ok' := fun k_ => ((fun k_ => k_ ≠ gb316)) k_ ∧ some k_ ≠ (.slice Ao21 x315000_1.length co21 : Value).ownBlock) (Kd.R_types (Kd.R_apart' (HO328.out) (Kd.S_typed HO_315000.out) (by decide)) BK316.out (by decide)) (fun k_ hk => ⟨hk.2, hk.1.2⟩))) (fun _ h_ => Or.inr (h_))))
         (case aB => exact (by repeat (first | (with_reducible first | exact HB.out | apply below_alloc | apply zB | apply zC | refine below_set ?_ GE312.out | refine below_set ?_ GE313.out | refine below_set ?_ GE314.out | refine below_set ?_ GE316.out) | exact HB.out)))
         (case aF => exact (fun k_ hk => Kd.freshB (g := gb316) (o := .cells #[.bool ((rd_T90 l0_0 x4_1).f0), .slice A315_1 ((rd_T90 l0_0 x4_1).f1).length c315_1, .slice A315_2 ((rd_T90 l0_0 x4_1).f2).length c315_2, .int .i64 ((rd_T90 l0_0 x4_1).f3)] 90 (0, 0)) (wJ BK316.out) k_ hk))
         (case aO => exact (by (with_reducible repeat (first | apply Kd.S_alloc | apply Kd.S_drewN | apply Kd.S_drew)); exact yB HO_315000.out (fun k_ hk => ⟨hk.1.2, fun e_ => e_.elim (fun h_ => hk.1.1 h_) (fun h_ => hk.2 h_)⟩)))
         (case aS => exact (zV (by repeat (first | (with_reducible first | exact HB.out | apply below_alloc | apply zB | apply zC | refine below_set ?_ GE312.out | refine below_set ?_ GE313.out | refine below_set ?_ GE314.out | refine below_set ?_ GE316.out) | exact HB.out))))
         (case aL => have := LMc12.out; omega)
         intro v330 w33 ho hb hg hat
         rw [← Ny329.out] at ho
         have n0_ := zA (blk_grown (g := gb312) (o := .cells #[.slice (some ad315) l0_0.length c0_0] 24 (0, 0)) (wJ BK312.out) hg (Kd.S_ne HO_315000.out BK312.out (by decide)))
         have n1_ := zA (blk_grown (g := gb313) (o := .cells #[.slice none 0 0] 24 (0, 0)) (wJ BK313.out) hg (Kd.S_ne HO_315000.out BK313.out (by decide)))
         have n2_ := zA (blk_grown (g := gb314) (o := .cells #[.slice Ao21 x315000_1.length co21] 24 (0, 0)) (wJ BK314.out) hg (Kd.S_ne HO_315000.out BK314.out (by decide)))
         have n3_ := zA (blk_grown (g := gb316) (o := .cells #[.bool ((rd_T90 l0_0 x4_1).f0), .slice A315_1 ((rd_T90 l0_0 x4_1).f1).length c315_1, .slice A315_2 ((rd_T90 l0_0 x4_1).f2).length c315_2, .int .i64 ((rd_T90 l0_0 x4_1).f3)] 90 (0, 0)) (wJ BK316.out) hg (Kd.S_away HO_315000.out (fun _ hk => hk.1.2)))
         have n4_ := zA (hb)
         have n5_ := zA (ho)
         clear BK312
         clear BK313
         clear BK314
         clear BK316
         clear HB
         clear HO_315000
         clear HO322
         clear HO328
         have BK312 := n0_
         have BK313 := n1_
         have BK314 := n2_
         have BK316 := n3_
         have HB := n4_
         have HO331 := n5_
         clear n0_ n1_ n2_ n3_ n4_ n5_
         clear ho hb hg hat
         obtain ⟨Ao34, co34, eo34⟩ := Kd.S_slice HO331.out
         (first | subst eo34 | (injection eo34 with f1_ f2_ f3_; have f4_ := f1_.symm; have f5_ := f3_.symm; clear f1_ f2_ f3_; subst f4_; subst f5_))
         refine hK.out _ _ ⟨(blk_cell BK314.out 0).trans rfl, (blk_cell BK316.out 0).trans rfl, (blk_cell BK316.out 1).trans rfl, (blk_cell BK316.out 2).trans rfl, (blk_cell BK316.out 3).trans rfl⟩ (fun hHeld => ?_)
         clear hK K
         refine norm_ (a' := ?_) ?_ ?_
         rotate_left
         · show Act.put _ (some 35) _ = _
           simp only [Act.put, zN, zO, zP, i64_w, i32_w]
           rfl
         refine pure_ (i := 17) (N := some 36) (v := ?_) (a' := ?_) #[true, true, true, true, true, true, true, true, true, true, true, true, true, true, true, true, true, true, false] rfl rfl (yM HT_.out (by kernel_rfl)) (fun _ _ _ h => h) (Or.inl ⟨by rfl, ?_⟩) ?_ ?_
         rotate_left
         · intro w'
           go_simp
           with_reducible rfl
         rotate_left
         · simp only [Act.put, zN, zO, zP, i64_w, i32_w]
           rfl
         refine last_ (i := 18) (N := none) #[true, true, true, true, true, true, true, true, true, true, true, true, true, true, true, true, true, true, true] rfl rfl (yN HT_.out (by kernel_rfl)) (by decide) (fun K hK => ?_)
         have hs35 : w33.cell? ⟨gb314, 0, none⟩ = some (.slice Ao21 x315000_1.length co21) := (blk_cell BK314.out 0).trans rfl
         have hfs35 := zG BK314.out 0
         have hns35_0 := NB312_314.out
         have hns35_1 := NB313_314.out
         have hns35_3 := NB316_314.out
         have hms35_0 := NB314_312.out
         have hms35_1 := NB314_313.out
         have hms35_3 := NB314_316.out
         refine skip_ (w1 := ?_) (by rfl) rfl ?_ ?_
         rotate_left
         · go_simp
           rfl
         refine hK.out _ _ ?_
         clear hK K
         refine done_ (done_of HT_.out (by kernel_rfl)) ?_
         try go_wp2
         go_roundg k1
         case measure => have := HK1.out; omega
         case rel => exact ⟨(wrap64 (x4_1 + 1)), (y329), (.slice Ao34 y329.length co34), wF, H', ⟨by have := HK1.out; omega⟩, ⟨by (with_reducible repeat (first | apply Kd.S_alloc | apply Kd.S_drewN | apply Kd.S_drew)); exact yB (Kd.S_far (p := ⟨gb314, 0, none⟩) (Kd.S_types HO331.out BK314.out (by decide)) (fun _ hk => hk.2) (.slice Ao34 y329.length co34)) (fun _ hk => trivial)⟩, ⟨by (with_reducible repeat (first | refine zD ?_ _ | refine zE ?_ | refine zF ?_ _)); refine blk_far ?_ NB312_314.out _; (with_reducible repeat (first | refine zD ?_ _ | refine zE ?_ | refine zF ?_ _)); exact BK312.out⟩, ⟨by (with_reducible repeat (first | refine zD ?_ _ | refine zE ?_ | refine zF ?_ _)); refine blk_far ?_ NB313_314.out _; (with_reducible repeat (first | refine zD ?_ _ | refine zE ?_ | refine zF ?_ _)); exact BK313.out⟩, ⟨by (with_reducible repeat (first | refine zD ?_ _ | refine zE ?_ | refine zF ?_ _)); refine blk_put (cs := #[.slice Ao21 x315000_1.length co21]) ?_ 0 _ rfl; (with_reducible repeat (first | refine zD ?_ _ | refine zE ?_ | refine zF ?_ _)); exact BK314.out⟩, ⟨by repeat (first | (with_reducible first | exact HB.out | apply below_alloc | apply zB | apply zC | refine below_set ?_ GE312.out | refine below_set ?_ GE313.out | refine below_set ?_ GE314.out | refine below_set ?_ GE316.out) | exact HB.out)⟩⟩
        ·rw [if_neg c12] at H
         exact absurd H (by simp)
       ·rw [if_neg c11] at H
        exact absurd H (by simp)
      ·rw [if_neg c10] at H
       exact absurd H (by simp)
     ·rw [if_neg c9] at H
      exact absurd H (by simp)
    ·rw [if_neg c8] at H
     have c8b0 : decide (x4_1 < (l0_0.length : Int)) = false := zK c8
     clear c8
     obtain rfl := zL H
     have hnb36 := NB312_313.out
     have hnc36 := NB313_312.out
     have hnb37 := NB312_314.out
     have hnc37 := NB314_312.out
     have hcz38_0 : wr.cell? ⟨gb312, 0, none⟩ = some (.slice A0_0 l0_0.length c0_0) := (blk_cell BK312.out 0).trans rfl
     have hfz38_0 := zG BK312.out 0
     have hnb39 := NB314_313.out
     have hnc39 := NB313_314.out
     have hcz40_0 : wr.cell? ⟨gb314, 0, none⟩ = some (u315000) := (blk_cell BK314.out 0).trans rfl
     have hfz40_0 := zG BK314.out 0
     obtain ⟨Ao41, co41, eo41⟩ := Kd.S_slice HO_315000.out
     subst eo41
     have hcz42_0 : wr.cell? ⟨gb313, 0, none⟩ = some (.slice none 0 0) := (blk_cell BK313.out 0).trans rfl
     have hfz42_0 := zG BK313.out 0
     go_wp2
     refine bodyPost_ret (yK rfl _ _ gb313 24 #[.slice Ao41 x315000_1.length co41] (0, 0) _ rfl (by (with_reducible repeat (first | refine zD ?_ _ | refine zE ?_ | refine zF ?_ _)); refine blk_put (cs := #[.slice none 0 0]) ?_ 0 _ rfl; (with_reducible repeat (first | refine zD ?_ _ | refine zE ?_ | refine zF ?_ _)); exact BK313.out) Try.underlying24 rfl (by kernel_rfl)) rfl ?_
     exact ⟨_, wG, by (with_reducible repeat (first | apply Kd.S_alloc | apply Kd.S_drewN | apply Kd.S_drew)); exact yB (Kd.S_far (p := ⟨gb313, 0, none⟩) (Kd.S_types HO_315000.out BK313.out (by decide)) (fun _ hk => hk.2) (.slice Ao41 x315000_1.length co41)) (fun _ hk => trivial), wD GE312.out GE313.out GE314.out⟩

/-! ### spec_l3Part: function 84 -/
def spec_l3Part.f (a0_0 : Bool) (l0_1 : List ByteArray) (l0_2 : List (S56)) (a1 : Int) (a2 : Int) : Option (Bool × List ByteArray × (List (S56))) := if a0_0 = true then ((some (([] : List ByteArray) : List ByteArray)).bind fun y334 => (if 0 ≤ a1 then (if a1 ≤ a2 then (if a2 ≤ (l0_1.length : Int) then (if y334.length + ((l0_1.take (a2 : Int).toNat).drop (a1 : Int).toNat).length < 8796093022208 then (some (true, (y334 ++ ((l0_1.take (a2 : Int).toNat).drop (a1 : Int).toNat)), ([] : List (S56)))) else (none)) else (none)) else (none)) else (none))) else ((some (([] : List (S56)) : List (S56))).bind fun y341 => (if 0 ≤ a1 then (if a1 ≤ a2 then (if a2 ≤ (l0_2.length : Int) then ((some ((l0_2.take (a2 : Int).toNat).drop (a1 : Int).toNat : List (S56))).bind fun y344 => (if y341.length + y344.length < 2513169434916 then (some (false, ([] : List ByteArray), (y341 ++ y344))) else (none))) else (none)) else (none)) else (none)))
set_option maxHeartbeats 8000000 in
set_option maxRecDepth 100000 in
theorem spec_l3Part.calls (a0_0 : Bool) (A0_1 : Option Addr) (c0_1 : Nat) (l0_1 : List ByteArray) (P0_2_ : Nat → Prop) (A0_2 : Option Addr) (c0_2 : Nat) (l0_2 : List (S56)) (a1 : Int) (a2 : Int) (r1 : Bool) (r2 : List ByteArray) (r3 : List (S56)) (w : World) (hr0_1 : Kd.C Kd.string w A0_1 l0_1.length l0_1) (hc0_1 : l0_1.length ≤ c0_1) (hs0_2 : Kd.V k56 56 w w.heap.size (fun k_ => P0_2_ k_) (.slice A0_2 l0_2.length c0_2) l0_2) (h : spec_l3Part.f a0_0 l0_1 l0_2 a1 a2 = some (r1, r2, r3)) :
  Calls Try.prog 84 #[.agg #[.bool a0_0, .slice A0_1 l0_1.length c0_1, .slice A0_2 l0_2.length c0_2], .int .i64 a1, .int .i64 a2] w fun e w' => ∃ v1_ v2_ : Value, e = .returned (.agg #[.bool r1, v1_, v2_]) ∧ Kd.R Kd.string 9 w' w.heap.size (fun k_ => (w.heap.size ≤ k_)) v1_ r2 ∧ Kd.N k56 56 w' w.heap.size (fun k_ => (P0_2_ k_ ∨ w.heap.size ≤ k_) ∧ some k_ ≠ (v1_ : Value).ownBlock) v2_ r3 ∧ Below w.heap.size w w' := by
 have hu56 := Try.underlying56
 have HR0_1 := zA hr0_1
 have HC0_1 := zA hc0_1
 clear hr0_1 hc0_1
 have HO0_2 := zA (show Kd.V k56 56 w w.heap.size (fun k_ => (P0_2_ k_ ∨ w.heap.size ≤ k_)) (.slice A0_2 l0_2.length c0_2) l0_2 from Kd.V_mono hs0_2 (fun k_ hk => .inl hk))
 have HB := zA (zZ w.heap.size w)
 have H : (if a0_0 = true then ((some (([] : List ByteArray) : List ByteArray)).bind fun y334 => (if 0 ≤ a1 then (if a1 ≤ a2 then (if a2 ≤ (l0_1.length : Int) then (if y334.length + ((l0_1.take (a2 : Int).toNat).drop (a1 : Int).toNat).length < 8796093022208 then (some (true, (y334 ++ ((l0_1.take (a2 : Int).toNat).drop (a1 : Int).toNat)), ([] : List (S56)))) else (none)) else (none)) else (none)) else (none))) else ((some (([] : List (S56)) : List (S56))).bind fun y341 => (if 0 ≤ a1 then (if a1 ≤ a2 then (if a2 ≤ (l0_2.length : Int) then ((some ((l0_2.take (a2 : Int).toNat).drop (a1 : Int).toNat : List (S56))).bind fun y344 => (if y341.length + y344.length < 2513169434916 then (some (false, ([] : List ByteArray), (y341 ++ y344))) else (none))) else (none)) else (none)) else (none)))) = some (r1, r2, r3) := h
 clear h
 by_cases c4 : a0_0 = true
 ·subst c4
  have H1 : ((some (([] : List ByteArray) : List ByteArray)).bind fun y334 => (if 0 ≤ a1 then (if a1 ≤ a2 then (if a2 ≤ (l0_1.length : Int) then (if y334.length + ((l0_1.take (a2 : Int).toNat).drop (a1 : Int).toNat).length < 8796093022208 then (some (true, (y334 ++ ((l0_1.take (a2 : Int).toNat).drop (a1 : Int).toNat)), ([] : List (S56)))) else (none)) else (none)) else (none)) else (none))) = some (r1, r2, r3) := by rw [if_pos rfl] at H; exact H
  clear H
  have H := H1
  clear H1
  obtain ⟨y334, hy334⟩ : ∃ y_ : List ByteArray, y_ = (([] : List ByteArray)) := ⟨_, rfl⟩
  replace H : (if 0 ≤ a1 then (if a1 ≤ a2 then (if a2 ≤ (l0_1.length : Int) then (if y334.length + ((l0_1.take (a2 : Int).toNat).drop (a1 : Int).toNat).length < 8796093022208 then (some (true, (y334 ++ ((l0_1.take (a2 : Int).toNat).drop (a1 : Int).toNat)), ([] : List (S56)))) else (none)) else (none)) else (none)) else (none)) = some (r1, r2, r3) := wO hy334 H
  have Ny334 := zA hy334
  clear hy334
  by_cases c5 : 0 ≤ a1
  ·rw [if_pos c5] at H
   have c5b0 := eq_true c5
   have c5b1 : decide (0 ≤ a1) = true := zJ c5
   clear c5
   by_cases c6 : a1 ≤ a2
   ·rw [if_pos c6] at H
    have c6b0 := eq_true c6
    have c6b1 : decide (a1 ≤ a2) = true := zJ c6
    clear c6
    by_cases c7 : a2 ≤ (l0_1.length : Int)
    ·rw [if_pos c7] at H
     have c7b0 := eq_true c7
     have c7b1 : decide (a2 ≤ (l0_1.length : Int)) = true := zJ c7
     clear c7
     by_cases c8 : y334.length + ((l0_1.take (a2 : Int).toNat).drop (a1 : Int).toNat).length < 8796093022208
     ·rw [if_pos c8] at H
      have LMc8 := zA c8
      clear c8
      obtain ⟨y338, hy338⟩ : ∃ y_ : List ByteArray, y_ = (y334 ++ ((l0_1.take (a2 : Int).toNat).drop (a1 : Int).toNat)) := ⟨_, rfl⟩
      replace H : (some (true, y338, ([] : List (S56)))) = some (r1, r2, r3) := wO hy338 H
      have Ny338 := zA hy338
      clear hy338
      simp only [Option.some.injEq, Prod.mk.injEq] at H
      obtain ⟨rfl, rfl, rfl⟩ := H
      go_enter Try.func84, Try.ntmps84
      go_wp2_with (first | ((with_reducible refine gate_dst (N := 3) rfl ?_); refine box_event ?hg (N := 3) ?hd (cs := #[.bool true, .slice A0_1 l0_1.length c0_1, .slice A0_2 l0_2.length c0_2]) (t := 56) ?hr ?_; (case hd => rfl); (case hg => rfl); (case hr => first | (go_simp; done) | (go_simp; rfl)); intro gb332 hg w9 hbox hb; have n0_ := zA (Kd.V_below (Kd.V_elderB (wL HO0_2.out) gb332 (Nat.le_of_eq hg.symm)) hb); have n1_ := zA (zU wA hb); have n2_ := zA (hbox); have n3_ := zA ((by rw [hg]; exact (zV wA) : w.heap.size ≤ gb332)); have n4_ := zA ((by rw [hg]; exact (zV wA) : w.heap.size ≤ gb332)); clear HO0_2; clear HB; have HO0_2 := n0_; have HB := n1_; have BK332 := n2_; have GW332 := n3_; have GE332 := n4_; clear n0_ n1_ n2_ n3_ n4_; clear hb hbox hg) | ((with_reducible refine gate_dst (N := 6) rfl ?_); refine box_event ?hg (N := 6) ?hd (cs := #[.bool false, .slice none 0 0, .slice none 0 0]) (t := 56) ?hr ?_; (case hd => rfl); (case hg => rfl); (case hr => first | (go_simp; done) | (go_simp; rfl)); intro gb333 hg w10 hbox hb; have n0_ := zA (Kd.V_below (Kd.V_elderB (wL HO0_2.out) gb333 (Nat.le_of_eq hg.symm)) hb); have n1_ := zA (zH (g := gb332) (o := .cells #[.bool true, .slice A0_1 l0_1.length c0_1, .slice A0_2 l0_2.length c0_2] 56 (0, 0)) (wJ BK332.out) hb); have n2_ := zA (zU (wB GE332.out) hb); have n3_ := zA (hbox); have n4_ := zA ((by rw [hg]; exact (zV (wB GE332.out)) : w.heap.size ≤ gb333)); have n5_ := zA ((by rw [hg]; exact (zV (wB GE332.out)) : w.heap.size ≤ gb333)); have n6_ := zA ((by rw [hg]; exact Nat.ne_of_lt (blk_lt (g := gb332) (o := .cells #[.bool true, .slice A0_1 l0_1.length c0_1, .slice A0_2 l0_2.length c0_2] 56 (0, 0)) (wJ BK332.out)) : gb332 ≠ gb333)); have n7_ := zA ((by rw [hg]; exact Nat.ne_of_gt (blk_lt (g := gb332) (o := .cells #[.bool true, .slice A0_1 l0_1.length c0_1, .slice A0_2 l0_2.length c0_2] 56 (0, 0)) (wJ BK332.out)) : gb333 ≠ gb332)); clear HO0_2; clear BK332; clear HB; have HO0_2 := n0_; have BK332 := n1_; have HB := n2_; have BK333 := n3_; have GW333 := n4_; have GE333 := n5_; have NB332_333 := n6_; have NB333_332 := n7_; clear n0_ n1_ n2_ n3_ n4_ n5_ n6_ n7_; clear hb hbox hg; have hnb11 := NB332_333.out; have hnc11 := NB333_332.out; have hcz12_0 : w10.cell? ⟨gb332, 0, none⟩ = some (.bool true) := (blk_cell BK332.out 0).trans rfl; have hcz12_1 : w10.cell? ⟨gb332, 1, none⟩ = some (.slice A0_1 l0_1.length c0_1) := (blk_cell BK332.out 1).trans rfl; have hcz12_2 : w10.cell? ⟨gb332, 2, none⟩ = some (.slice A0_2 l0_2.length c0_2) := (blk_cell BK332.out 2).trans rfl; have hfz12_0 := zG BK332.out 0; have hfz12_1 := zG BK332.out 1; have hfz12_2 := zG BK332.out 2) | ((with_reducible refine gate_dst (N := 9) rfl ?_); refine Kd.R_lit Kd.string _ 9 ?hg (N := 9) ?hd (xs := ([] : List ByteArray)) (inner := []) (ok := fun _ => True) (okp := fun _ => True) ?hr ?hp (fun _ hk => hk) trivial (zZ _ _) (zY _) (by simp) ?_; (case hd => rfl); (case hg => rfl); (case hr => first | (go_simp; done) | (go_simp; rfl)); (case hp => exact (Reps.none _ _)); intro v335 w13 ho14 hb hg_ hnew_; clear hg_ hnew_; (first | rw [← Ny334.out] at ho14 | (simp only [Int.reduceToNat] at ho14; rw [← Ny334.out] at ho14)); have n0_ := zA (Kd.V_elder' (wL HO0_2.out) (Kd.R_base ho14) hb); have n1_ := zA (Kd.R_lower (Kd.R_newM (M := fun k_ => (w.heap.size ≤ k_)) ho14 (zV (wC GE332.out GE333.out)) (fun k_ h_ => h_)) (zV (wC GE332.out GE333.out))); have n2_ := zA (zH (g := gb332) (o := .cells #[.bool true, .slice A0_1 l0_1.length c0_1, .slice A0_2 l0_2.length c0_2] 56 (0, 0)) (wJ BK332.out) hb); have n3_ := zA (zH (g := gb333) (o := .cells #[.bool false, .slice none 0 0, .slice none 0 0] 56 (0, 0)) (wJ BK333.out) hb); have n4_ := zA (zU (wC GE332.out GE333.out) hb); clear HO0_2; clear BK332; clear BK333; clear HB; have HO0_2 := n0_; have HO336 := n1_; have BK332 := n2_; have BK333 := n3_; have HB := n4_; clear n0_ n1_ n2_ n3_ n4_; clear hb ho14; have hcz15_0 : w13.cell? ⟨gb332, 0, none⟩ = some (.bool true) := (blk_cell BK332.out 0).trans rfl; have hcz15_1 : w13.cell? ⟨gb332, 1, none⟩ = some (.slice A0_1 l0_1.length c0_1) := (blk_cell BK332.out 1).trans rfl; have hcz15_2 : w13.cell? ⟨gb332, 2, none⟩ = some (.slice A0_2 l0_2.length c0_2) := (blk_cell BK332.out 2).trans rfl; have hfz15_0 := zG BK332.out 0; have hfz15_1 := zG BK332.out 1; have hfz15_2 := zG BK332.out 2; obtain ⟨i016, hi016, _, hsz16, _⟩ := info_parts info9; obtain ⟨A16, hcut16, hA16, hC16⟩ := print_mid_of (P := Try.prog) Value.string (⟨#[]⟩ : ByteArray) 38 9 .i64 .i64 Try.underlying38 hi016 hsz16 A0_1 c0_1 l0_1 a1 a2 (zI wE) (by first | omega | exact zI wE) (zI wE) HC0_1.out; have HR337 := zA (Kd.C_of_reads (h1 := fun _ => rfl) (hA16 _ (Kd.reads_of_C HR0_1.out))); have HC337 := zA hC16; clear hA16 hC16 hi016 hsz16) | ((with_reducible refine gate_builtin (b := .append) (xs := #[.tmp 9, .tmp 14]) rfl ?_); at_builtin; refine Kd.R_append_rows Kd.string (w0 := w) w.heap.size rfl (.tmp 9) (.tmp 14) 38 9 (.string ⟨#[]⟩) 16 rfl Try.underlying38 info9 rfl (by decide) (by omega) v335 y334 ((l0_1.take (a2 : Int).toNat).drop (a1 : Int).toNat) _ _ _ (fun k_ => (w.heap.size ≤ k_)) (fun _ => False) rfl rfl ?aO ?aR (fun _ _ h => h) (fun _ h => h.elim) ?aF ?aB ?aS ?aL ?_; (case aR => first | (have hlx_ := (show ((l0_1.take (a2 : Int).toNat).drop (a1 : Int).toNat).length = (a2.toNat - a1.toNat) from (by rw [zX, zW]; have h_ : (a2 : Int) ≤ (l0_1.length : Int) := zI wE; omega)); have g_ := (zQ HR337.out HB.out); rw [hlx_] at g_; exact g_) | (rw [← show ((l0_1.take (a2 : Int).toNat).drop (a1 : Int).toNat).length = (a2.toNat - a1.toNat) from (by rw [zX, zW]; have h_ : (a2 : Int) ≤ (l0_1.length : Int) := zI wE; omega)]; repeat (first | exact (zQ HR337.out HB.out) | (with_reducible refine zR ?_ _) | (with_reducible refine zS ?_ _) | (with_reducible refine zT ?_))) | (repeat (first | exact (zQ HR337.out HB.out) | (with_reducible refine zR ?_ _) | (with_reducible refine zS ?_ _) | (with_reducible refine zT ?_)))); (case aB => exact (wC GE332.out GE333.out)); (case aF => exact (fun k_ hk => (yI (zV (wC GE332.out GE333.out)) hk))); (case aO => exact (by (with_reducible repeat (first | apply Kd.R_alloc | apply Kd.R_drewN | apply Kd.R_drew)); exact yA HO336.out (fun _ hk => hk.1))); (case aS => exact (zV (wC GE332.out GE333.out))); (case aL => have := LMc8.out; have hlx_ := (show ((l0_1.take (a2 : Int).toNat).drop (a1 : Int).toNat).length = (a2.toNat - a1.toNat) from (by rw [zX, zW]; have h_ : (a2 : Int) ≤ (l0_1.length : Int) := zI wE; omega)); omega); intro v339 w17 ho hb hg hat; rw [← Ny338.out] at ho; have n0_ := zA (Kd.V_afterv (ok := (fun k_ => (P0_2_ k_ ∨ w.heap.size ≤ k_) ∧ k_ ≠ gb332 ∧ k_ ≠ gb333)) (by (with_reducible repeat (first | apply Kd.V_alloc | apply Kd.V_drewN | apply Kd.V_drew)); exact Kd.V_mono HO0_2.out (fun _ hk => ⟨⟨hk.1.1.1, ⟨hk.1.1.2, hk.1.2⟩⟩, hk.2⟩)) hg hat); have n1_ := zA (blk_grown (g := gb332) (o := .cells #[.bool true, .slice A0_1 l0_1.length c0_1, .slice A0_2 l0_2.length c0_2] 56 (0, 0)) (wJ BK332.out) hg (Kd.R_ne HO336.out BK332.out (by decide))); have n2_ := zA (blk_grown (g := gb333) (o := .cells #[.bool false, .slice none 0 0, .slice none 0 0] 56 (0, 0)) (wJ BK333.out) hg (Kd.R_ne HO336.out BK333.out (by decide))); have n3_ := zA (hb); have n4_ := zA (ho); clear HO0_2; clear BK332; clear BK333; clear HB; clear HO336; have HO0_2 := n0_; have BK332 := n1_; have BK333 := n2_; have HB := n3_; have HO340 := n4_; clear n0_ n1_ n2_ n3_ n4_; clear ho hb hg hat; obtain ⟨Ao18, co18, eo18⟩ := Kd.R_slice HO340.out; subst eo18; have hcz19_0 : w17.cell? ⟨gb333, 0, none⟩ = some (.bool false) := (blk_cell BK333.out 0).trans rfl; have hcz19_1 : w17.cell? ⟨gb333, 1, none⟩ = some (.slice none 0 0) := (blk_cell BK333.out 1).trans rfl; have hcz19_2 : w17.cell? ⟨gb333, 2, none⟩ = some (.slice none 0 0) := (blk_cell BK333.out 2).trans rfl; have hfz19_0 := zG BK333.out 0; have hfz19_1 := zG BK333.out 1; have hfz19_2 := zG BK333.out 2))
      refine bodyPost_ret (yK rfl _ _ gb333 56 #[.bool true, .slice Ao18 y338.length co18, .slice none 0 0] (0, 0) _ rfl (by (with_reducible repeat (first | refine zD ?_ _ | refine zE ?_ | refine zF ?_ _)); refine blk_put (cs := #[.bool true, .slice Ao18 y338.length co18, .slice none 0 0]) ?_ 2 _ rfl; (with_reducible repeat (first | refine zD ?_ _ | refine zE ?_ | refine zF ?_ _)); refine blk_put (cs := #[.bool true, .slice none 0 0, .slice none 0 0]) ?_ 1 _ rfl; (with_reducible repeat (first | refine zD ?_ _ | refine zE ?_ | refine zF ?_ _)); refine blk_put (cs := #[.bool false, .slice none 0 0, .slice none 0 0]) ?_ 0 _ rfl; (with_reducible repeat (first | refine zD ?_ _ | refine zE ?_ | refine zF ?_ _)); exact BK333.out) Try.underlying56 rfl (by kernel_rfl)) rfl ?_
      exact ⟨_, _, wG, by (with_reducible repeat (first | apply Kd.R_alloc | apply Kd.R_drewN | apply Kd.R_drew)); exact yA (Kd.R_far (p := ⟨gb333, 2, none⟩) (Kd.R_far (p := ⟨gb333, 1, none⟩) (Kd.R_far (p := ⟨gb333, 0, none⟩) (Kd.R_types HO340.out BK333.out (by decide)) (fun _ hk => hk.2) (.bool true)) (fun _ hk => hk.2) (.slice Ao18 y338.length co18)) (fun _ hk => hk.2) (.slice none 0 0)) (fun _ hk => hk.1), by first | exact Kd.R_nil _ _ _ _ _ | exact Kd.N_nil _ _ _ _ _ | exact Kd.V_nil _ _ _ _ _ | exact Kd.Q_nil _ _ _ _ _ | exact Kd.S_nil _ _ _ _ _, wC GE332.out GE333.out⟩
     ·rw [if_neg c8] at H
      exact absurd H (by simp)
    ·rw [if_neg c7] at H
     exact absurd H (by simp)
   ·rw [if_neg c6] at H
    exact absurd H (by simp)
  ·rw [if_neg c5] at H
   exact absurd H (by simp)
 ·replace c4 := Bool.eq_false_iff.mpr c4
  subst c4
  have H1 : ((some (([] : List (S56)) : List (S56))).bind fun y341 => (if 0 ≤ a1 then (if a1 ≤ a2 then (if a2 ≤ (l0_2.length : Int) then ((some ((l0_2.take (a2 : Int).toNat).drop (a1 : Int).toNat : List (S56))).bind fun y344 => (if y341.length + y344.length < 2513169434916 then (some (false, ([] : List ByteArray), (y341 ++ y344))) else (none))) else (none)) else (none)) else (none))) = some (r1, r2, r3) := by rw [if_neg (show ¬ (false = true) by decide)] at H; exact H
  clear H
  have H := H1
  clear H1
  obtain ⟨y341, hy341⟩ : ∃ y_ : List (S56), y_ = (([] : List (S56))) := ⟨_, rfl⟩
  replace H : (if 0 ≤ a1 then (if a1 ≤ a2 then (if a2 ≤ (l0_2.length : Int) then ((some ((l0_2.take (a2 : Int).toNat).drop (a1 : Int).toNat : List (S56))).bind fun y344 => (if y341.length + y344.length < 2513169434916 then (some (false, ([] : List ByteArray), (y341 ++ y344))) else (none))) else (none)) else (none)) else (none)) = some (r1, r2, r3) := wO hy341 H
  have Ny341 := zA hy341
  clear hy341
  by_cases c20 : 0 ≤ a1
  ·rw [if_pos c20] at H
   have c20b0 := eq_true c20
   have c20b1 : decide (0 ≤ a1) = true := zJ c20
   clear c20
   by_cases c21 : a1 ≤ a2
   ·rw [if_pos c21] at H
    have c21b0 := eq_true c21
    have c21b1 : decide (a1 ≤ a2) = true := zJ c21
    clear c21
    by_cases c22 : a2 ≤ (l0_2.length : Int)
    ·rw [if_pos c22] at H
     have c22b0 := eq_true c22
     have c22b1 : decide (a2 ≤ (l0_2.length : Int)) = true := zJ c22
     clear c22
     obtain ⟨y344, hy344⟩ : ∃ y_ : List (S56), y_ = ((l0_2.take (a2 : Int).toNat).drop (a1 : Int).toNat) := ⟨_, rfl⟩
     replace H : (if y341.length + y344.length < 2513169434916 then (some (false, ([] : List ByteArray), (y341 ++ y344))) else (none)) = some (r1, r2, r3) := wO hy344 H
     have Ny344 := zA hy344
     clear hy344
     by_cases c23 : y341.length + y344.length < 2513169434916
     ·rw [if_pos c23] at H
      have LMc23 := zA c23
      clear c23
      obtain ⟨y349, hy349⟩ : ∃ y_ : List (S56), y_ = (y341 ++ y344) := ⟨_, rfl⟩
      replace H : (some (false, ([] : List ByteArray), y349)) = some (r1, r2, r3) := wO hy349 H
      have Ny349 := zA hy349
      clear hy349
      simp only [Option.some.injEq, Prod.mk.injEq] at H
      obtain ⟨rfl, rfl, rfl⟩ := H
      go_enter Try.func84, Try.ntmps84
      go_wp2_with (first | ((with_reducible refine gate_dst (N := 3) rfl ?_); refine box_event ?hg (N := 3) ?hd (cs := #[.bool false, .slice A0_1 l0_1.length c0_1, .slice A0_2 l0_2.length c0_2]) (t := 56) ?hr ?_; (case hd => rfl); (case hg => rfl); (case hr => first | (go_simp; done) | (go_simp; rfl)); intro gb332 hg w24 hbox hb; have n0_ := zA (Kd.V_below (Kd.V_elderB (wL HO0_2.out) gb332 (Nat.le_of_eq hg.symm)) hb); have n1_ := zA (zU wA hb); have n2_ := zA (hbox); have n3_ := zA ((by rw [hg]; exact (zV wA) : w.heap.size ≤ gb332)); have n4_ := zA ((by rw [hg]; exact (zV wA) : w.heap.size ≤ gb332)); clear HO0_2; clear HB; have HO0_2 := n0_; have HB := n1_; have BK332 := n2_; have GW332 := n3_; have GE332 := n4_; clear n0_ n1_ n2_ n3_ n4_; clear hb hbox hg) | ((with_reducible refine gate_dst (N := 6) rfl ?_); refine box_event ?hg (N := 6) ?hd (cs := #[.bool false, .slice none 0 0, .slice none 0 0]) (t := 56) ?hr ?_; (case hd => rfl); (case hg => rfl); (case hr => first | (go_simp; done) | (go_simp; rfl)); intro gb333 hg w25 hbox hb; have n0_ := zA (Kd.V_below (Kd.V_elderB (wL HO0_2.out) gb333 (Nat.le_of_eq hg.symm)) hb); have n1_ := zA (zH (g := gb332) (o := .cells #[.bool false, .slice A0_1 l0_1.length c0_1, .slice A0_2 l0_2.length c0_2] 56 (0, 0)) (wJ BK332.out) hb); have n2_ := zA (zU (wB GE332.out) hb); have n3_ := zA (hbox); have n4_ := zA ((by rw [hg]; exact (zV (wB GE332.out)) : w.heap.size ≤ gb333)); have n5_ := zA ((by rw [hg]; exact (zV (wB GE332.out)) : w.heap.size ≤ gb333)); have n6_ := zA ((by rw [hg]; exact Nat.ne_of_lt (blk_lt (g := gb332) (o := .cells #[.bool false, .slice A0_1 l0_1.length c0_1, .slice A0_2 l0_2.length c0_2] 56 (0, 0)) (wJ BK332.out)) : gb332 ≠ gb333)); have n7_ := zA ((by rw [hg]; exact Nat.ne_of_gt (blk_lt (g := gb332) (o := .cells #[.bool false, .slice A0_1 l0_1.length c0_1, .slice A0_2 l0_2.length c0_2] 56 (0, 0)) (wJ BK332.out)) : gb333 ≠ gb332)); clear HO0_2; clear BK332; clear HB; have HO0_2 := n0_; have BK332 := n1_; have HB := n2_; have BK333 := n3_; have GW333 := n4_; have GE333 := n5_; have NB332_333 := n6_; have NB333_332 := n7_; clear n0_ n1_ n2_ n3_ n4_ n5_ n6_ n7_; clear hb hbox hg; have hnb26 := NB332_333.out; have hnc26 := NB333_332.out; have hcz27_0 : w25.cell? ⟨gb332, 0, none⟩ = some (.bool false) := (blk_cell BK332.out 0).trans rfl; have hcz27_1 : w25.cell? ⟨gb332, 1, none⟩ = some (.slice A0_1 l0_1.length c0_1) := (blk_cell BK332.out 1).trans rfl; have hcz27_2 : w25.cell? ⟨gb332, 2, none⟩ = some (.slice A0_2 l0_2.length c0_2) := (blk_cell BK332.out 2).trans rfl; have hfz27_0 := zG BK332.out 0; have hfz27_1 := zG BK332.out 1; have hfz27_2 := zG BK332.out 2) | ((with_reducible refine gate_dst (N := 17) rfl ?_); refine Kd.N_lit k56 _ 56 ?hg (N' := 17) ?hd (xs := ([] : List (S56))) (inner := []) (ok := (fun k_ => (P0_2_ k_ ∨ w.heap.size ≤ k_) ∧ k_ ≠ gb332 ∧ k_ ≠ gb333)) (okp := (fun k_ => (P0_2_ k_ ∨ w.heap.size ≤ k_) ∧ k_ ≠ gb332 ∧ k_ ≠ gb333)) ?hr ?hp (fun _ hk => hk) ((show ∀ k_, w25.heap.size ≤ k_ → (fun k_ => (P0_2_ k_ ∨ w.heap.size ≤ k_) ∧ k_ ≠ gb332 ∧ k_ ≠ gb333) k_ from fun k_ hk => ⟨(.inr (yI (zV (wC GE332.out GE333.out)) hk)), Kd.freshB (g := gb332) (o := .cells #[.bool false, .slice A0_1 l0_1.length c0_1, .slice A0_2 l0_2.length c0_2] 56 (0, 0)) (wJ BK332.out) k_ hk, Kd.freshB (g := gb333) (o := .cells #[.bool false, .slice none 0 0, .slice none 0 0] 56 (0, 0)) (wJ BK333.out) k_ hk⟩) _ (zY _)) (zZ _ _) (zY _) (by simp) ?_; (case hd => rfl); (case hg => rfl); (case hr => first | (go_simp; done) | (go_simp; rfl)); (case hp => exact (Reps.none _ _)); intro v342 w28 ho29 hb hg_ hnew_; clear hg_ hnew_; (first | rw [← Ny341.out] at ho29 | (simp only [Int.reduceToNat] at ho29; rw [← Ny341.out] at ho29)); have n0_ := zA (Kd.V_elder' (wL HO0_2.out) (Kd.N_base ho29) hb); have n1_ := zA (Kd.N_lower ho29 (zV (wC GE332.out GE333.out))); have n2_ := zA (zH (g := gb332) (o := .cells #[.bool false, .slice A0_1 l0_1.length c0_1, .slice A0_2 l0_2.length c0_2] 56 (0, 0)) (wJ BK332.out) hb); have n3_ := zA (zH (g := gb333) (o := .cells #[.bool false, .slice none 0 0, .slice none 0 0] 56 (0, 0)) (wJ BK333.out) hb); have n4_ := zA (zU (wC GE332.out GE333.out) hb); clear HO0_2; clear BK332; clear BK333; clear HB; have HO0_2 := n0_; have HO343 := n1_; have BK332 := n2_; have BK333 := n3_; have HB := n4_; clear n0_ n1_ n2_ n3_ n4_; clear hb ho29; have hcz30_0 : w28.cell? ⟨gb332, 0, none⟩ = some (.bool false) := (blk_cell BK332.out 0).trans rfl; have hcz30_1 : w28.cell? ⟨gb332, 1, none⟩ = some (.slice A0_1 l0_1.length c0_1) := (blk_cell BK332.out 1).trans rfl; have hcz30_2 : w28.cell? ⟨gb332, 2, none⟩ = some (.slice A0_2 l0_2.length c0_2) := (blk_cell BK332.out 2).trans rfl; have hfz30_0 := zG BK332.out 0; have hfz30_1 := zG BK332.out 1; have hfz30_2 := zG BK332.out 2; have q31 : (a2 : Int) ≤ ((l0_2.length : Int) : Int) := zI wE; obtain ⟨i031, hi031, _, hsz31, _⟩ := info_parts info56; have hroom31 : l0_2.length ≤ c0_2 := (Kd.V_reads' HO0_2.out).2.1; have hC31 : Kd.F k56 _ _ A0_2 l0_2.length l0_2 := (Kd.V_at (base := w.heap.size) HO0_2.out).2.2; have ql31 : (a1 : Int) ≤ (a2 : Int) := zI wE; have q031 : (0 : Int) ≤ (a1 : Int) := zI wE; have hcut31 := cut_mid (P := Try.prog) 54 56 .i64 .i64 Try.underlying54 hi031 3 hsz31 A0_2 l0_2.length c0_2 a1 a2 q031 ql31 q31 hroom31; have hr31 := Kd.F_mid (lo := (a1 : Int).toNat) (hi := (a2 : Int).toNat) (c := c0_2) hC31 (by omega) (by omega) hroom31; obtain ⟨A31, hA31⟩ : ∃ A1, A1 = (if c0_2 = (a1 : Int).toNat then A0_2 else (A0_2 : Option Addr).map (·.add ((a1 : Int).toNat * 3))) := ⟨_, rfl⟩; obtain ⟨c31, hc31⟩ : ∃ c1, c1 = c0_2 - (a1 : Int).toNat := ⟨_, rfl⟩; have hy31 : y344.length = (a2 : Int).toNat - (a1 : Int).toNat := (by rw [Ny344.out, zX, zW] <;> omega); rw [show ((l0_2).take (a2 : Int).toNat).drop (a1 : Int).toNat = y344 from Ny344.out.symm] at hr31; replace hr31 : Kd.F k56 _ _ A31 y344.length y344 := (by rw [hA31]; exact hr31); rw [← hy31, ← hA31, ← hc31] at hcut31; have HO348 := zA (show Kd.V k56 56 _ w.heap.size _ (.slice A31 y344.length c31) y344 from Kd.V_mk (by rw [hy31, hc31]; exact Nat.sub_le_sub_right (yI (by omega) hroom31) _) hr31); have HC348 := zA (show y344.length ≤ c31 from by rw [hy31, hc31]; exact Nat.sub_le_sub_right (yI (by omega) hroom31) _); clear hr31 hC31 hroom31 hi031 hsz31 hc31; have KY31 := zA hy31; have KA31 := zA hA31; clear hy31 hA31; replace q31 := eq_true q31) | ((with_reducible refine gate_builtin (b := .append) (xs := #[.tmp 17, .tmp 22]) rfl ?_); at_builtin; refine Kd.N_append_rows k56 (w0 := w) w.heap.size rfl (.tmp 17) (.tmp 22) 54 56 (.agg #[(.bool false), (.slice none 0 0), (.slice none 0 0)]) 56 rfl Try.underlying54 info56 rfl (by decide) (by omega) v342 y341 y344 _ _ _ (fun k_ => (P0_2_ k_ ∨ w.heap.size ≤ k_) ∧ k_ ≠ gb332 ∧ k_ ≠ gb333) (fun k_ => ((fun k_ => (P0_2_ k_ ∨ w.heap.size ≤ k_) ∧ k_ ≠ gb332 ∧ k_ ≠ gb333)) k_ ∧ some k_ ≠ (v342 : Value).ownBlock) rfl rfl ?aO ?aR (fun _ hk => hk) ?aF ?aB ?aS ?aL ?_; (case aR => exact (by skip; exact Kd.V_F (Kd.V_mono (ok' := (fun k_ => ((fun k_ => (P0_2_ k_ ∨ w.heap.size ≤ k_) ∧ k_ ≠ gb332 ∧ k_ ≠ gb333)) k_ ∧ some k_ ≠ (v342 : Value).ownBlock)) (HO348.out) (fun k_ hk => ⟨⟨hk.1.1.1, ⟨hk.1.1.2, hk.1.2⟩⟩, hk.2⟩)))); (case aB => exact (wC GE332.out GE333.out)); (case aF => exact (fun k_ hk => ⟨(.inr (yI (zV (wC GE332.out GE333.out)) hk)), Kd.freshB (g := gb332) (o := .cells #[.bool false, .slice A0_1 l0_1.length c0_1, .slice A0_2 l0_2.length c0_2] 56 (0, 0)) (wJ BK332.out) k_ hk, Kd.freshB (g := gb333) (o := .cells #[.bool false, .slice none 0 0, .slice none 0 0] 56 (0, 0)) (wJ BK333.out) k_ hk⟩)); (case aO => exact (wN HO343.out)); (case aS => exact (zV (wC GE332.out GE333.out))); (case aL => have := LMc23.out; omega); intro v350 w32 ho hb hg hat; rw [← Ny349.out] at ho; have n0_ := zA (Kd.V_afterv (ok := (fun k_ => (P0_2_ k_ ∨ w.heap.size ≤ k_) ∧ k_ ≠ gb332 ∧ k_ ≠ gb333)) (by (with_reducible repeat (first | apply Kd.V_alloc | apply Kd.V_drewN | apply Kd.V_drew)); exact Kd.V_mono HO0_2.out (fun _ hk => ⟨⟨hk.1.1.1, ⟨hk.1.1.2, hk.1.2⟩⟩, hk.2⟩)) hg hat); have n1_ := zA (blk_grown (g := gb332) (o := .cells #[.bool false, .slice A0_1 l0_1.length c0_1, .slice A0_2 l0_2.length c0_2] 56 (0, 0)) (wJ BK332.out) hg (Kd.N_away HO343.out (fun _ hk => hk.2.1))); have n2_ := zA (blk_grown (g := gb333) (o := .cells #[.bool false, .slice none 0 0, .slice none 0 0] 56 (0, 0)) (wJ BK333.out) hg (Kd.N_away HO343.out (fun _ hk => hk.2.2))); have n3_ := zA (Kd.V_afterv (ok := (fun k_ => (P0_2_ k_ ∨ w.heap.size ≤ k_) ∧ k_ ≠ gb332 ∧ k_ ≠ gb333)) (by (with_reducible repeat (first | apply Kd.V_alloc | apply Kd.V_drewN | apply Kd.V_drew)); exact Kd.V_mono HO348.out (fun _ hk => ⟨⟨hk.1.1.1, ⟨hk.1.1.2, hk.1.2⟩⟩, hk.2⟩)) hg hat); have n4_ := zA (hb); have n5_ := zA (ho); clear HO0_2; clear BK332; clear BK333; clear HO348; clear HB; clear HO343; have HO0_2 := n0_; have BK332 := n1_; have BK333 := n2_; have HO348 := n3_; have HB := n4_; have HO351 := n5_; clear n0_ n1_ n2_ n3_ n4_ n5_; clear ho hb hg hat; obtain ⟨Ao33, co33, eo33⟩ := Kd.N_slice HO351.out; subst eo33; have hcz34_0 : w32.cell? ⟨gb333, 0, none⟩ = some (.bool false) := (blk_cell BK333.out 0).trans rfl; have hcz34_1 : w32.cell? ⟨gb333, 1, none⟩ = some (.slice none 0 0) := (blk_cell BK333.out 1).trans rfl; have hcz34_2 : w32.cell? ⟨gb333, 2, none⟩ = some (.slice none 0 0) := (blk_cell BK333.out 2).trans rfl; have hfz34_0 := zG BK333.out 0; have hfz34_1 := zG BK333.out 1; have hfz34_2 := zG BK333.out 2))
      refine bodyPost_ret (yK rfl _ _ gb333 56 #[.bool false, .slice none 0 0, .slice Ao33 y349.length co33] (0, 0) _ rfl (by (with_reducible repeat (first | refine zD ?_ _ | refine zE ?_ | refine zF ?_ _)); refine blk_put (cs := #[.bool false, .slice none 0 0, .slice none 0 0]) ?_ 2 _ rfl; (with_reducible repeat (first | refine zD ?_ _ | refine zE ?_ | refine zF ?_ _)); refine blk_put (cs := #[.bool false, .slice none 0 0, .slice none 0 0]) ?_ 1 _ rfl; (with_reducible repeat (first | refine zD ?_ _ | refine zE ?_ | refine zF ?_ _)); refine blk_put (cs := #[.bool false, .slice none 0 0, .slice none 0 0]) ?_ 0 _ rfl; (with_reducible repeat (first | refine zD ?_ _ | refine zE ?_ | refine zF ?_ _)); exact BK333.out) Try.underlying56 rfl (by kernel_rfl)) rfl ?_
      exact ⟨_, _, wG, by first | exact Kd.R_nil _ _ _ _ _ | exact Kd.N_nil _ _ _ _ _ | exact Kd.V_nil _ _ _ _ _ | exact Kd.Q_nil _ _ _ _ _ | exact Kd.S_nil _ _ _ _ _, by (with_reducible repeat (first | apply Kd.N_alloc | apply Kd.N_drewN | apply Kd.N_drew)); exact yC (Kd.N_far (p := ⟨gb333, 2, none⟩) (Kd.N_far (p := ⟨gb333, 1, none⟩) (Kd.N_far (p := ⟨gb333, 0, none⟩) (yC HO351.out (fun k_ hk => (⟨hk, hk.2.2⟩ : _ ∧ k_ ≠ gb333))) (fun _ hk => hk.2) (.bool false)) (fun _ hk => hk.2) (.slice none 0 0)) (fun _ hk => hk.2) (.slice Ao33 y349.length co33)) (fun _ hk => ⟨hk.1.1, (by simp [Value.ownBlock])⟩), wC GE332.out GE333.out⟩
     ·rw [if_neg c23] at H
      exact absurd H (by simp)
    ·rw [if_neg c22] at H
     exact absurd H (by simp)
   ·rw [if_neg c21] at H
    exact absurd H (by simp)
  ·rw [if_neg c20] at H
   exact absurd H (by simp)
end Go.Proofs.Ytfjcfklgnlmjjaa.PB
