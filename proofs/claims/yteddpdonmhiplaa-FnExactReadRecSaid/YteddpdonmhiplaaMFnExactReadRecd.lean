-- Made by this session's programs out of the translation and of its own texts.
import Derived.Test.YteddpdonmhiplaaMFnExactReadRecc
namespace Go.Proofs.Yteddpdonmhiplaa.PR
open Go.RowKit Go.Proofs.YteddpdonmhiplaaW.PrintWords Go.Proofs.YteddpdonmhiplaaW.PrintLast Go.Proofs.YteddpdonmhiplaaW.PrintMore
attribute [local go_sem] max2_int min2_int max_two min_two max_three min_three max_four min_four   -- for this text's walks alone
set_option linter.unusedVariables false
set_option linter.unusedSimpArgs false

/-! ### laws_markByteS: function 39 -/
def laws_markByteS.l0 : Nat → List Int → Int → Int → Option (Int × List Int)
  | 0, _, _, _ => none
  | k + 1, x0, x1, x5 => if x5 < (x0.length : Int) then (if 0 ≤ x5 then (laws_markByteS.l0 k (x0.set (x5 : Int).toNat ((x1) % 256)) (wrap64 (x1 + 1)) (wrap64 (x5 + 1))) else (none)) else (some (x1, x0))
def laws_markByteS.f (k : Nat) (l0 : List Int) (a1 : Int) : Option (Int × List Int) := laws_markByteS.l0 k l0 a1 0
theorem laws_markByteS.mono_l : ∀ k, (∀ y0 y1 y2, LeO (laws_markByteS.l0 k y0 y1 y2) (laws_markByteS.l0 (k + 1) y0 y1 y2))
  | 0 => fun _ _ _ r h => by simp [laws_markByteS.l0] at h
  | k + 1 => by
    have ih0 := laws_markByteS.mono_l k
    · intro y0 y1 y2
      unfold laws_markByteS.l0
      repeat' first
      | (with_reducible exact ih0 _ _ _)
      | (with_reducible exact LeO.refl _)
      | (with_reducible exact LeO.none _)
      | (with_reducible refine LeO.ite ?_ ?_)
      | (with_reducible refine LeO.bind ?_ (fun _ => ?_))
      | exact ih0 _ _ _
      | exact LeO.none _
      | refine LeO.ite ?_ ?_
      | refine LeO.bind ?_ (fun _ => ?_)
theorem laws_markByteS.mono : ∀ a0 a1 k, LeO (laws_markByteS.f k a0 a1) (laws_markByteS.f (k + 1) a0 a1) := by
  intro a0 a1 k
  have ih0 := laws_markByteS.mono_l k
  unfold laws_markByteS.f
  repeat' first
      | (with_reducible exact ih0 _ _ _)
      | (with_reducible exact LeO.refl _)
      | (with_reducible exact LeO.none _)
      | (with_reducible refine LeO.ite ?_ ?_)
      | (with_reducible refine LeO.bind ?_ (fun _ => ?_))
      | exact ih0 _ _ _
      | exact LeO.none _
      | refine LeO.ite ?_ ?_
      | refine LeO.bind ?_ (fun _ => ?_)
set_option maxHeartbeats 8000000 in
set_option maxRecDepth 100000 in
theorem laws_markByteS.calls (k : Nat) (P0_ : Nat → Prop) (u9000_ : Value) (l0 : List Int) (a1 : Int) (r1 : Int) (r2 : List Int) (w0 w : World) (hB : Below w0.heap.size w0 w) (ho0 : Kd.R (Kd.int .u8) 5 w w0.heap.size P0_ u9000_ l0) (h : laws_markByteS.f k l0 a1 = some (r1, r2)) :
    Calls Try.prog 39 #[u9000_, .int .i64 a1] w fun e w' => e = .returned (.int .i64 r1) ∧ Kd.R (Kd.int .u8) 5 w' w0.heap.size (fun k_ => (P0_ k_ ∨ w.heap.size ≤ k_)) u9000_ r2 ∧ Below w0.heap.size w0 w' ∧ Kept w w' (fun k_ => P0_ k_) := by
  have HO0 := Aside0.mk (show Kd.R (Kd.int .u8) 5 w w0.heap.size (fun k_ => (P0_ k_ ∨ w.heap.size ≤ k_)) u9000_ l0 from Kd.R_mono ho0 (fun k_ hk => (.inl hk)))
  have HK := Aside0.mk (Kept.refl w (fun k_ => P0_ k_))
  have HW0 := Aside0.mk hB.size
  have HB := Aside0.mk hB
  clear hB
  have H : (laws_markByteS.l0 k l0 a1 0) = some (r1, r2) := h
  clear h
  have H' := Aside0.mk H
  clear H
  go_enter Try.func39, Try.ntmps39
  go_wp2
  go_loopg [1, 5] k (fun kq v1 v5 w' => ∃ (x0_1 : List Int) (x1_1 : Int) (x5_1 : Int), v1 = .int .i64 x1_1 ∧ v5 = .int .i64 x5_1 ∧ Aside0 (laws_markByteS.l0 kq x0_1 x1_1 x5_1 = some (r1, r2)) ∧ Aside0 (kq ≤ k) ∧ Aside0 (Kd.R (Kd.int .u8) 5 w' w0.heap.size (fun k_ => (P0_ k_ ∨ w.heap.size ≤ k_)) u9000_ x0_1) ∧ Aside0 (Kept w w' (fun k_ => P0_ k_)) ∧ Aside0 (Below w0.heap.size w0 w'))
  case atStart => exact ⟨(l0), (a1), (0), (by first | rfl | (simp; done) | (simp [*]; done)), (by first | rfl | (simp; done) | (simp [*]; done)), H', ⟨Nat.le_refl _⟩, ⟨by (with_reducible repeat (first | apply Kd.R_alloc | apply Kd.R_drewN | apply Kd.R_drew)); exact HO0.out⟩, ⟨by repeat (first | (with_reducible first | exact HK.out | apply Kept.alloc | apply Kept.drewN | apply Kept.drew) | exact HK.out)⟩, ⟨by repeat (first | (with_reducible first | exact HB.out | apply below_alloc | apply pw_below_drewN | apply below_drew1) | exact HB.out)⟩⟩
  case round =>
    clear H'
    try clear p2
    obtain ⟨x0_1, x1_1, x5_1, rfl, rfl, HA, HK1, HO_0, HK, HB⟩ := hrel
    cases gk with
    | zero => exact absurd HA.out (by simp [laws_markByteS.l0])
    | succ k1 =>
      have H := HA.out
      clear HA
      simp only [laws_markByteS.l0] at H
      by_cases c3 : x5_1 < (x0_1.length : Int)
      · rw [if_pos c3] at H
        have c3b0 : decide (x5_1 < (x0_1.length : Int)) = true := decide_eq_true c3
        clear c3
        by_cases c4 : 0 ≤ x5_1
        · rw [if_pos c4] at H
          have c4b0 : decide (0 ≤ x5_1) = true := decide_eq_true c4
          clear c4
          obtain ⟨y355, hy355⟩ : ∃ y_ : List Int, y_ = (x0_1.set (x5_1 : Int).toNat ((x1_1) % 256)) := ⟨_, rfl⟩
          replace H : (laws_markByteS.l0 k1 y355 (wrap64 (x1_1 + 1)) (wrap64 (x5_1 + 1))) = some (r1, r2) := by first | (rw [hy355]; with_reducible exact H) | (have H2_ := (Option.bind_some _ _).symm.trans H; rw [hy355]; with_reducible exact H2_) | (have H2_ := (Option.bind_some _ _).symm.trans H; with_reducible exact H2_) | with_reducible exact H | (rw [hy355]; exact H) | exact H
          have Ny355 := Aside0.mk hy355
          clear hy355
          have H' := Aside0.mk H
          clear H
          obtain ⟨Ao6, co6, eo6⟩ := Kd.R_slice HO_0.out
          subst eo6
          have p5 : 0 ≤ (x5_1 : Int) := of_decide_eq_true (by first | (with_reducible assumption) | assumption)
          have q5 : (x5_1 : Int) < ((x0_1.length : Int) : Int) := of_decide_eq_true (by first | (with_reducible assumption) | assumption)
          obtain ⟨go5, co5, eo5, gb5, gl5, cl5, HG5⟩ := Kd.R_form HO_0.out (by omega)
          (first | cases eo5 | (injection eo5 with ea_ en_ ec_; (first | subst ea_ | (injection ea_ with ea_; subst ea_)); subst ec_; clear en_))
          have GB5 := Aside0.mk gb5
          have GG5 := Aside0.mk HG5
          clear gb5 gl5 HG5
          have HMgo5 := Aside0.mk (show (P0_ go5 ∨ w.heap.size ≤ go5) from (HO_0.out.1 _ rfl))
          obtain ⟨hx5_0, hf5_0⟩ := Kd.R_celln 0 HO_0.out (x5_1 : Int) p5 q5
          replace p5 := eq_true p5
          replace q5 := eq_true q5
          have HP7 := Kd.R_putg HO_0.out (x5_1 : Int) ((x1_1) % 256)
          go_wp2_with (first | ((with_reducible refine gate_store (t := 5) (p := 16) rfl ?_); refine store_event (t := 5) (p := 16) (v := ?vo_w8) (w1 := (wr.setCell ⟨go5, (x5_1 : Int).toNat, none⟩ (.int .u8 ((x1_1) % 256)))) ?hg ?ho ?hn ?hr ?_; (case ho => rfl); (case hg => rfl); (case hn => rfl); (case hr => first | (go_simp; done) | (go_simp; rfl)); intro w8 hw; have hg : wr.grownBy w8 (some go5) := (by rw [hw]; exact HP7.2); have hp_ : Kd.R (Kd.int .u8) 5 w8 w0.heap.size (fun k_ => (P0_ k_ ∨ w.heap.size ≤ k_)) (.slice (some ⟨go5, 0, none⟩) x0_1.length co6) y355 := (by rw [hw, Ny355.out]; exact HP7.1); clear HP7; have n0_ := Aside0.mk (hp_); have n1_ := Aside0.mk ((by rw [hw]; exact below_set (HB.out) GB5.out : Below w0.heap.size w0 w8)); have n2_ := Aside0.mk (Kept.of_grown (S := (fun k_ => P0_ k_)) hg (by repeat (first | (with_reducible first | exact HK.out | apply Kept.alloc | apply Kept.drewN | apply Kept.drew) | exact HK.out)) (fun k_ e_ => (HO_0.out.1 k_ e_))); clear HO_0; clear HB; clear HK; have HO_0 := n0_; have HB := n1_; have HK := n2_; clear n0_ n1_ n2_; clear hg hw hp_))
          go_roundg k1
          case measure => have := HK1.out; omega
          case rel => exact ⟨(y355), (wrap64 (x1_1 + 1)), (wrap64 (x5_1 + 1)), (by first | rfl | (simp; done) | (simp [*]; done)), (by first | rfl | (simp; done) | (simp [*]; done)), H', ⟨by have := HK1.out; omega⟩, ⟨by (with_reducible repeat (first | apply Kd.R_alloc | apply Kd.R_drewN | apply Kd.R_drew)); exact HO_0.out⟩, ⟨by repeat (first | (with_reducible first | exact HK.out | apply Kept.alloc | apply Kept.drewN | apply Kept.drew) | exact HK.out)⟩, ⟨by repeat (first | (with_reducible first | exact HB.out | apply below_alloc | apply pw_below_drewN | apply below_drew1) | exact HB.out)⟩⟩
        · rw [if_neg c4] at H
          exact absurd H (by simp)
      · rw [if_neg c3] at H
        have c3b0 : decide (x5_1 < (x0_1.length : Int)) = false := decide_eq_false c3
        clear c3
        simp only [Option.some.injEq, Prod.mk.injEq] at H
        obtain ⟨rfl, rfl⟩ := H
        obtain ⟨Ao9, co9, eo9⟩ := Kd.R_slice HO_0.out
        subst eo9
        go_wp2
        go_ret
        exact ⟨by first | rfl | (simp [errW_none, errW_some] <;> rfl) | (simp [*, errW_none, errW_some] <;> rfl), by (with_reducible repeat (first | apply Kd.R_alloc | apply Kd.R_drewN | apply Kd.R_drew)); exact HO_0.out, by repeat (first | (with_reducible first | exact HB.out | apply below_alloc | apply pw_below_drewN | apply below_drew1) | exact HB.out), by repeat (first | (with_reducible first | exact HK.out | apply Kept.alloc | apply Kept.drewN | apply Kept.drew) | exact HK.out)⟩

/-! ### L_base: a text by hand -/
-- words of this session's own: stores into a variable's block that is elder than what is held
theorem R_farB {α : Type} {d : Kd α} {e base : Nat} {w : World} {ok : Nat → Prop} {v : Value} {xs : List α} {b : Nat} (h : d.R e w base ok v xs) (hb : b < base) (j : Nat) (u : Value) : d.R e (w.setCell ⟨b, j, none⟩ u) base ok v xs :=
  Kd.R_mono (Kd.R_far (p := ⟨b, j, none⟩) (Kd.R_bound h) (fun k hk => show k ≠ b by have := hk.2.1; omega) u) (fun _ hk => hk.1)
theorem S_farB {α : Type} {d : Kd α} {e base : Nat} {w : World} {ok : Nat → Prop} {v : Value} {xs : List α} {b : Nat} (h : Kd.S d e w base ok v xs) (hb : b < base) (j : Nat) (u : Value) : Kd.S d e (w.setCell ⟨b, j, none⟩ u) base ok v xs :=
  Kd.S_mono (Kd.S_far (p := ⟨b, j, none⟩) (Kd.S_bound h) (fun k hk => show k ≠ b by have := hk.2.1; omega) u) (fun _ hk => hk.1)
theorem below_setB {B b : Nat} {w W : World} (h : Below B w W) (hb : B ≤ b) (j : Nat) (u : Value) : Below B w (W.setCell ⟨b, j, none⟩ u) := h.setCell hb u
theorem below_allocB {B : Nat} {w W : World} (h : Below B w W) (hB : B ≤ W.heap.size) (o : Obj) : Below B w (W.alloc o) := h.alloc hB o
theorem blk_newB {w W : World} {o : Obj} (hb : Below (w.alloc o).heap.size (w.alloc o) W) : W.heap[w.heap.size]? = some o := blk_below (blk_new w o) hb
theorem blk_two {w W : World} {a b : Obj} (hb : Below ((w.alloc a).alloc b).heap.size ((w.alloc a).alloc b) W) : W.heap[w.heap.size + 1]? = some b := by
  have h := blk_below (blk_new (w.alloc a) b) hb
  have e : (w.alloc a).heap.size = w.heap.size + 1 := by simp
  rwa [e] at h
theorem blk_cells4 {w : World} {g t : Nat} {a b c d : Value} (h : w.heap[g]? = some (.cells #[a, b, c, d] t (0, 0))) : w.cell? ⟨g, 0, none⟩ = some a ∧ w.cell? ⟨g, 1, none⟩ = some b ∧ w.cell? ⟨g, 2, none⟩ = some c ∧ w.cell? ⟨g, 3, none⟩ = some d ∧
    w.frozen? ⟨g, 0, none⟩ = false ∧ w.frozen? ⟨g, 1, none⟩ = false ∧ w.frozen? ⟨g, 2, none⟩ = false ∧ w.frozen? ⟨g, 3, none⟩ = false :=
  ⟨(blk_cell h 0).trans rfl, (blk_cell h 1).trans rfl, (blk_cell h 2).trans rfl, (blk_cell h 3).trans rfl, blk_frozen h 0, blk_frozen h 1, blk_frozen h 2, blk_frozen h 3⟩
theorem blk_set4 {w : World} {g t : Nat} {a b c d a' b' c' d' : Value} (h : w.heap[g]? = some (.cells #[a, b, c, d] t (0, 0))) :
    ((((w.setCell ⟨g, 0, none⟩ a').setCell ⟨g, 1, none⟩ b').setCell ⟨g, 2, none⟩ c').setCell ⟨g, 3, none⟩ d').heap[g]? = some (.cells #[a', b', c', d'] t (0, 0)) :=
  blk_put (blk_put (blk_put (blk_put h 0 a' rfl) 1 b' rfl) 2 c' rfl) 3 d' rfl
theorem R_iv {α : Type} {d : Kd α} {e b : Nat} {w : World} {ok : Nat → Prop} {v : Value} {xs : List α} (h : d.R e w b ok v xs) (B lo : Nat) (hB : B ≤ b) (hlo : lo ≤ b) : d.R e w B (fun k => (lo ≤ k ∧ k < w.heap.size) ∧ ok k) v xs :=
  Kd.R_mono (Kd.R_lower (Kd.R_bound h) hB) (fun k hk => ⟨⟨Nat.le_trans hlo hk.2.1, hk.2.2.1⟩, hk.1⟩)
theorem S_iv {α : Type} {d : Kd α} {e b : Nat} {w : World} {ok : Nat → Prop} {v : Value} {xs : List α} (h : Kd.S d e w b ok v xs) (B lo : Nat) (hB : B ≤ b) (hlo : lo ≤ b) : Kd.S d e w B (fun k => (lo ≤ k ∧ k < w.heap.size) ∧ ok k) v xs :=
  Kd.S_mono (Kd.S_lower (Kd.S_bound h) hB) (fun k hk => ⟨⟨Nat.le_trans hlo hk.2.1, hk.2.2.1⟩, hk.1⟩)
theorem drawn_below {w w' : World} (h : Drawn0 w w') : Below w.heap.size w w' := h.below

/-! ### laws_heldByteS: function 74 -/
def laws_heldByteS.l0 : Nat → List Int → Int → Int → Option (Int)
  | 0, _, _, _ => none
  | k + 1, x0, x1, x5 => if x5 < (x0.length : Int) then (if 0 ≤ x5 then (if (rd x0 x5) = ((x1) % 256) then (laws_heldByteS.l0 k x0 (wrap64 (x1 + 1)) (wrap64 (x5 + 1))) else (some (-1))) else (none)) else (some x1)
def laws_heldByteS.f (k : Nat) (l0 : List Int) (a1 : Int) : Option (Int) := laws_heldByteS.l0 k l0 a1 0
theorem laws_heldByteS.mono_l : ∀ k, (∀ y0 y1 y2, LeO (laws_heldByteS.l0 k y0 y1 y2) (laws_heldByteS.l0 (k + 1) y0 y1 y2))
  | 0 => fun _ _ _ r h => by simp [laws_heldByteS.l0] at h
  | k + 1 => by
    have ih0 := laws_heldByteS.mono_l k
    · intro y0 y1 y2
      unfold laws_heldByteS.l0
      repeat' first
      | (with_reducible exact ih0 _ _ _)
      | (with_reducible exact LeO.refl _)
      | (with_reducible exact LeO.none _)
      | (with_reducible refine LeO.ite ?_ ?_)
      | (with_reducible refine LeO.bind ?_ (fun _ => ?_))
      | exact ih0 _ _ _
      | exact LeO.none _
      | refine LeO.ite ?_ ?_
      | refine LeO.bind ?_ (fun _ => ?_)
theorem laws_heldByteS.mono : ∀ a0 a1 k, LeO (laws_heldByteS.f k a0 a1) (laws_heldByteS.f (k + 1) a0 a1) := by
  intro a0 a1 k
  have ih0 := laws_heldByteS.mono_l k
  unfold laws_heldByteS.f
  repeat' first
      | (with_reducible exact ih0 _ _ _)
      | (with_reducible exact LeO.refl _)
      | (with_reducible exact LeO.none _)
      | (with_reducible refine LeO.ite ?_ ?_)
      | (with_reducible refine LeO.bind ?_ (fun _ => ?_))
      | exact ih0 _ _ _
      | exact LeO.none _
      | refine LeO.ite ?_ ?_
      | refine LeO.bind ?_ (fun _ => ?_)
set_option maxHeartbeats 8000000 in
set_option maxRecDepth 100000 in
theorem laws_heldByteS.calls (k : Nat) (A0 : Option Addr) (c0 : Nat) (l0 : List Int) (a1 : Int) (r : Int) (w : World) (hr0 : Kd.C (Kd.int .u8) w A0 l0.length l0) (hc0 : l0.length ≤ c0) (h : laws_heldByteS.f k l0 a1 = some r) :
    Calls Try.prog 74 #[.slice A0 l0.length c0, .int .i64 a1] w fun e w' => e = .returned (.int .i64 r) ∧ Drawn0 w w' := by
  have HR0 := Aside0.mk hr0
  have HC0 := Aside0.mk hc0
  clear hr0 hc0
  have H : (laws_heldByteS.l0 k l0 a1 0) = some r := h
  clear h
  have H' := Aside0.mk H
  clear H
  go_enter Try.func74, Try.ntmps74
  go_wp2
  go_loopg [1, 5] k (fun kq v1 v5 w' => ∃ (x1_1 : Int) (x5_1 : Int), v1 = .int .i64 x1_1 ∧ v5 = .int .i64 x5_1 ∧ Aside0 (laws_heldByteS.l0 kq l0 x1_1 x5_1 = some r) ∧ Aside0 (kq ≤ k) ∧ Drawn0 w w')
  case atStart => exact ⟨(a1), (0), (by first | rfl | (simp; done) | (simp [*]; done)), (by first | rfl | (simp; done) | (simp [*]; done)), H', ⟨Nat.le_refl _⟩, by repeat (first | exact Drawn0.refl _ | apply Drawn0.step)⟩
  case round =>
    clear H'
    try clear p2
    obtain ⟨x1_1, x5_1, rfl, rfl, HA, HK1, ⟨m1, rfl⟩⟩ := hrel
    cases gk with
    | zero => exact absurd HA.out (by simp [laws_heldByteS.l0])
    | succ k1 =>
      have H := HA.out
      clear HA
      simp only [laws_heldByteS.l0] at H
      by_cases c3 : x5_1 < (l0.length : Int)
      · rw [if_pos c3] at H
        have c3b0 : decide (x5_1 < (l0.length : Int)) = true := decide_eq_true c3
        clear c3
        by_cases c4 : 0 ≤ x5_1
        · rw [if_pos c4] at H
          have c4b0 : decide (0 ≤ x5_1) = true := decide_eq_true c4
          clear c4
          by_cases c5 : (rd l0 x5_1) = ((x1_1) % 256)
          · rw [if_pos c5] at H
            have c5b0 : ((rd l0 x5_1) == ((x1_1) % 256)) = true := beq_iff_eq.mpr c5
            have c5b1 : ((rd l0 x5_1) != ((x1_1) % 256)) = false := bne_eq_false_iff_eq.mpr c5
            clear c5
            have H' := Aside0.mk H
            clear H
            have p529 : 0 ≤ (x5_1 : Int) := of_decide_eq_true (by first | (with_reducible assumption) | assumption)
            have q529 : x5_1 < (l0.length : Int) := of_decide_eq_true (by first | (with_reducible assumption) | assumption)
            obtain ⟨ad529, e529, hx529_0⟩ := Kd.at_int HR0.out x5_1 p529 q529
            cases e529
            replace p529 := eq_true p529
            replace q529 := eq_true q529
            go_wp2
            go_roundg k1
            case measure => have := HK1.out; omega
            case rel => exact ⟨(wrap64 (x1_1 + 1)), (wrap64 (x5_1 + 1)), (by first | rfl | (simp; done) | (simp [*]; done)), (by first | rfl | (simp; done) | (simp [*]; done)), H', ⟨by have := HK1.out; omega⟩, by repeat (first | exact Drawn0.refl _ | apply Drawn0.step)⟩
          · rw [if_neg c5] at H
            have c5b0 : ((rd l0 x5_1) == ((x1_1) % 256)) = false := beq_eq_false_iff_ne.mpr c5
            have c5b1 : ((rd l0 x5_1) != ((x1_1) % 256)) = true := bne_iff_ne.mpr c5
            obtain rfl := Option.some.inj H
            have p529 : 0 ≤ (x5_1 : Int) := of_decide_eq_true (by first | (with_reducible assumption) | assumption)
            have q529 : x5_1 < (l0.length : Int) := of_decide_eq_true (by first | (with_reducible assumption) | assumption)
            obtain ⟨ad529, e529, hx529_0⟩ := Kd.at_int HR0.out x5_1 p529 q529
            cases e529
            replace p529 := eq_true p529
            replace q529 := eq_true q529
            go_wp2
            go_ret
            exact ⟨by first | rfl | (simp; done) | (simp [*]; done), by repeat (first | exact Drawn0.refl _ | apply Drawn0.step)⟩
        · rw [if_neg c4] at H
          exact absurd H (by simp)
      · rw [if_neg c3] at H
        have c3b0 : decide (x5_1 < (l0.length : Int)) = false := decide_eq_false c3
        clear c3
        obtain rfl := Option.some.inj H
        go_wp2
        go_ret
        exact ⟨by first | rfl | (simp; done) | (simp [*]; done), by repeat (first | exact Drawn0.refl _ | apply Drawn0.step)⟩

/-! ### laws_heldPendS: function 83 -/
def laws_heldPendS.l0 : Nat → List (S79) → Int → Int → Option (Int)
  | 0, _, _, _ => none
  | k + 1, x0, x1, x5 => if x5 < (x0.length : Int) then (if 0 ≤ x5 then (if ((rd_T79 x0 x5).f0) = x1 then ((laws_heldByteS.f k ((rd_T79 x0 x5).f1) (wrap64 (x1 + 1))).bind fun t532 => (if t532 < 0 then (some (-1)) else (laws_heldPendS.l0 k x0 t532 (wrap64 (x5 + 1))))) else (some (-1))) else (none)) else (some x1)
def laws_heldPendS.f (k : Nat) (l0 : List (S79)) (a1 : Int) : Option (Int) := laws_heldPendS.l0 k l0 a1 0
theorem laws_heldPendS.mono_l : ∀ k, (∀ y0 y1 y2, LeO (laws_heldPendS.l0 k y0 y1 y2) (laws_heldPendS.l0 (k + 1) y0 y1 y2))
  | 0 => fun _ _ _ r h => by simp [laws_heldPendS.l0] at h
  | k + 1 => by
    have ih0 := laws_heldPendS.mono_l k
    · intro y0 y1 y2
      unfold laws_heldPendS.l0
      repeat' first
      | (with_reducible exact ih0 _ _ _)
      | (with_reducible exact laws_heldByteS.mono _ _ _)
      | (with_reducible exact LeO.refl _)
      | (with_reducible exact LeO.none _)
      | (with_reducible refine LeO.ite ?_ ?_)
      | (with_reducible refine LeO.bind ?_ (fun _ => ?_))
      | exact ih0 _ _ _
      | exact laws_heldByteS.mono _ _ _
      | exact LeO.none _
      | refine LeO.ite ?_ ?_
      | refine LeO.bind ?_ (fun _ => ?_)
theorem laws_heldPendS.mono : ∀ a0 a1 k, LeO (laws_heldPendS.f k a0 a1) (laws_heldPendS.f (k + 1) a0 a1) := by
  intro a0 a1 k
  have ih0 := laws_heldPendS.mono_l k
  unfold laws_heldPendS.f
  repeat' first
      | (with_reducible exact ih0 _ _ _)
      | (with_reducible exact laws_heldByteS.mono _ _ _)
      | (with_reducible exact LeO.refl _)
      | (with_reducible exact LeO.none _)
      | (with_reducible refine LeO.ite ?_ ?_)
      | (with_reducible refine LeO.bind ?_ (fun _ => ?_))
      | exact ih0 _ _ _
      | exact laws_heldByteS.mono _ _ _
      | exact LeO.none _
      | refine LeO.ite ?_ ?_
      | refine LeO.bind ?_ (fun _ => ?_)
set_option maxHeartbeats 8000000 in
set_option maxRecDepth 100000 in
theorem laws_heldPendS.calls (k : Nat) (A0 : Option Addr) (c0 : Nat) (l0 : List (S79)) (a1 : Int) (r : Int) (w : World) (hr0 : Kd.C k79 w A0 l0.length l0) (hc0 : l0.length ≤ c0) (h : laws_heldPendS.f k l0 a1 = some r) :
    Calls Try.prog 83 #[.slice A0 l0.length c0, .int .i64 a1] w fun e w' => e = .returned (.int .i64 r) ∧ Drawn0 w w' := by
  have HR0 := Aside0.mk hr0
  have HC0 := Aside0.mk hc0
  clear hr0 hc0
  have H : (laws_heldPendS.l0 k l0 a1 0) = some r := h
  clear h
  have H' := Aside0.mk H
  clear H
  go_enter Try.func83, Try.ntmps83
  go_wp2
  go_loopg [1, 5] k (fun kq v1 v5 w' => ∃ (x1_1 : Int) (x5_1 : Int), v1 = .int .i64 x1_1 ∧ v5 = .int .i64 x5_1 ∧ Aside0 (laws_heldPendS.l0 kq l0 x1_1 x5_1 = some r) ∧ Aside0 (kq ≤ k) ∧ Drawn0 w w')
  case atStart => exact ⟨(a1), (0), (by first | rfl | (simp; done) | (simp [*]; done)), (by first | rfl | (simp; done) | (simp [*]; done)), H', ⟨Nat.le_refl _⟩, by repeat (first | exact Drawn0.refl _ | apply Drawn0.step)⟩
  case round =>
    clear H'
    try clear p2
    obtain ⟨x1_1, x5_1, rfl, rfl, HA, HK1, ⟨m1, rfl⟩⟩ := hrel
    cases gk with
    | zero => exact absurd HA.out (by simp [laws_heldPendS.l0])
    | succ k1 =>
      have H := HA.out
      clear HA
      simp only [laws_heldPendS.l0] at H
      by_cases c3 : x5_1 < (l0.length : Int)
      · rw [if_pos c3] at H
        have c3b0 : decide (x5_1 < (l0.length : Int)) = true := decide_eq_true c3
        clear c3
        by_cases c4 : 0 ≤ x5_1
        · rw [if_pos c4] at H
          have c4b0 : decide (0 ≤ x5_1) = true := decide_eq_true c4
          clear c4
          by_cases c5 : ((rd_T79 l0 x5_1).f0) = x1_1
          · rw [if_pos c5] at H
            have c5b0 : (((rd_T79 l0 x5_1).f0) == x1_1) = true := beq_iff_eq.mpr c5
            have c5b1 : (((rd_T79 l0 x5_1).f0) != x1_1) = false := bne_eq_false_iff_eq.mpr c5
            clear c5
            replace H := Option.bind_eq_some_iff.mp H
            obtain ⟨t532, A60, H⟩ := H
            replace H : (if t532 < 0 then (some (-1)) else (laws_heldPendS.l0 k1 l0 t532 (wrap64 (x5_1 + 1)))) = some r := H
            have A6 := Aside0.mk A60
            clear A60
            by_cases c7 : t532 < 0
            · rw [if_pos c7] at H
              have c7b0 : decide (t532 < 0) = true := decide_eq_true c7
              clear c7
              obtain rfl := Option.some.inj H
              have p530 : 0 ≤ (x5_1 : Int) := of_decide_eq_true (by first | (with_reducible assumption) | assumption)
              have q530 : x5_1 < (l0.length : Int) := of_decide_eq_true (by first | (with_reducible assumption) | assumption)
              obtain ⟨ad530, A530_1, c530_1, e530, hx530_0, hx530_1, hl530_1, hi530_1⟩ := at_T79 HR0.out x5_1 p530 q530
              cases e530
              have HR530_1 := Aside0.mk hi530_1
              have HC530_1 := Aside0.mk hl530_1
              clear hi530_1 hl530_1
              replace p530 := eq_true p530
              replace q530 := eq_true q530
              have p531 : 0 ≤ (x5_1 : Int) := of_decide_eq_true (by first | (with_reducible assumption) | assumption)
              have q531 : x5_1 < (l0.length : Int) := of_decide_eq_true (by first | (with_reducible assumption) | assumption)
              obtain ⟨ad531, A531_1, c531_1, e531, hx531_0, hx531_1, hl531_1, hi531_1⟩ := at_T79 HR0.out x5_1 p531 q531
              obtain rfl : ad530 = ad531 := (by injection e531)
              have HR531_1 := Aside0.mk hi531_1
              have HC531_1 := Aside0.mk hl531_1
              clear hi531_1 hl531_1
              replace p531 := eq_true p531
              replace q531 := eq_true q531
              have ea_ := Option.some.inj (hx530_1.symm.trans hx531_1)
              injection ea_ with ea_ en_ ec_
              subst ea_
              subst ec_
              clear en_
              go_wp2_with (first | ((with_reducible refine gate_callee (f := 74) rfl ?_); refine goesL_ (some 27) rfl rfl Try.func74 (by kernel_rfl) rfl #[.slice A530_1 ((rd_T79 l0 x5_1).f1).length c530_1, .int .i64 (wrap64 (x1_1 + 1))] rfl (by (try simp only [List.map_toArray, List.map_cons, List.map_nil]); first | done | rfl | (simp only [List.length_drop, List.length_take]; rfl)) ?_; (with_reducible refine (laws_heldByteS.calls k1 _ _ ((rd_T79 l0 x5_1).f1) (wrap64 (x1_1 + 1)) t532 _ ?side1 ?side2 A6.out).mono ?_); (case side1 => repeat (first | exact HR531_1.out | (with_reducible refine Kd.C_alloc ?_ _) | (with_reducible refine Kd.C_drewN ?_ _) | (with_reducible refine Kd.C_drew ?_))); (case side2 => exact HC531_1.out); rintro e w' ⟨rfl, ⟨nd, rfl⟩⟩; refine ⟨_, rfl, ?_⟩))
              go_ret
              exact ⟨by first | rfl | (simp; done) | (simp [*]; done), by repeat (first | exact Drawn0.refl _ | apply Drawn0.step)⟩
            · rw [if_neg c7] at H
              have c7b0 : decide (t532 < 0) = false := decide_eq_false c7
              clear c7
              have H' := Aside0.mk H
              clear H
              have p530 : 0 ≤ (x5_1 : Int) := of_decide_eq_true (by first | (with_reducible assumption) | assumption)
              have q530 : x5_1 < (l0.length : Int) := of_decide_eq_true (by first | (with_reducible assumption) | assumption)
              obtain ⟨ad530, A530_1, c530_1, e530, hx530_0, hx530_1, hl530_1, hi530_1⟩ := at_T79 HR0.out x5_1 p530 q530
              cases e530
              have HR530_1 := Aside0.mk hi530_1
              have HC530_1 := Aside0.mk hl530_1
              clear hi530_1 hl530_1
              replace p530 := eq_true p530
              replace q530 := eq_true q530
              have p531 : 0 ≤ (x5_1 : Int) := of_decide_eq_true (by first | (with_reducible assumption) | assumption)
              have q531 : x5_1 < (l0.length : Int) := of_decide_eq_true (by first | (with_reducible assumption) | assumption)
              obtain ⟨ad531, A531_1, c531_1, e531, hx531_0, hx531_1, hl531_1, hi531_1⟩ := at_T79 HR0.out x5_1 p531 q531
              obtain rfl : ad530 = ad531 := (by injection e531)
              have HR531_1 := Aside0.mk hi531_1
              have HC531_1 := Aside0.mk hl531_1
              clear hi531_1 hl531_1
              replace p531 := eq_true p531
              replace q531 := eq_true q531
              have ea_ := Option.some.inj (hx530_1.symm.trans hx531_1)
              injection ea_ with ea_ en_ ec_
              subst ea_
              subst ec_
              clear en_
              go_wp2_with (first | ((with_reducible refine gate_callee (f := 74) rfl ?_); refine goesL_ (some 27) rfl rfl Try.func74 (by kernel_rfl) rfl #[.slice A530_1 ((rd_T79 l0 x5_1).f1).length c530_1, .int .i64 (wrap64 (x1_1 + 1))] rfl (by (try simp only [List.map_toArray, List.map_cons, List.map_nil]); first | done | rfl | (simp only [List.length_drop, List.length_take]; rfl)) ?_; (with_reducible refine (laws_heldByteS.calls k1 _ _ ((rd_T79 l0 x5_1).f1) (wrap64 (x1_1 + 1)) t532 _ ?side1 ?side2 A6.out).mono ?_); (case side1 => repeat (first | exact HR531_1.out | (with_reducible refine Kd.C_alloc ?_ _) | (with_reducible refine Kd.C_drewN ?_ _) | (with_reducible refine Kd.C_drew ?_))); (case side2 => exact HC531_1.out); rintro e w' ⟨rfl, ⟨nd, rfl⟩⟩; refine ⟨_, rfl, ?_⟩))
              go_roundg k1
              case measure => have := HK1.out; omega
              case rel => exact ⟨(t532), (wrap64 (x5_1 + 1)), (by first | rfl | (simp; done) | (simp [*]; done)), (by first | rfl | (simp; done) | (simp [*]; done)), H', ⟨by have := HK1.out; omega⟩, by repeat (first | exact Drawn0.refl _ | apply Drawn0.step)⟩
          · rw [if_neg c5] at H
            have c5b0 : (((rd_T79 l0 x5_1).f0) == x1_1) = false := beq_eq_false_iff_ne.mpr c5
            have c5b1 : (((rd_T79 l0 x5_1).f0) != x1_1) = true := bne_iff_ne.mpr c5
            obtain rfl := Option.some.inj H
            have p530 : 0 ≤ (x5_1 : Int) := of_decide_eq_true (by first | (with_reducible assumption) | assumption)
            have q530 : x5_1 < (l0.length : Int) := of_decide_eq_true (by first | (with_reducible assumption) | assumption)
            obtain ⟨ad530, A530_1, c530_1, e530, hx530_0, hx530_1, hl530_1, hi530_1⟩ := at_T79 HR0.out x5_1 p530 q530
            cases e530
            have HR530_1 := Aside0.mk hi530_1
            have HC530_1 := Aside0.mk hl530_1
            clear hi530_1 hl530_1
            replace p530 := eq_true p530
            replace q530 := eq_true q530
            go_wp2
            go_ret
            exact ⟨by first | rfl | (simp; done) | (simp [*]; done), by repeat (first | exact Drawn0.refl _ | apply Drawn0.step)⟩
        · rw [if_neg c4] at H
          exact absurd H (by simp)
      · rw [if_neg c3] at H
        have c3b0 : decide (x5_1 < (l0.length : Int)) = false := decide_eq_false c3
        clear c3
        obtain rfl := Option.some.inj H
        go_wp2
        go_ret
        exact ⟨by first | rfl | (simp; done) | (simp [*]; done), by repeat (first | exact Drawn0.refl _ | apply Drawn0.step)⟩

/-! ### laws_heldDisk: function 34 -/
def laws_heldDisk.f (k : Nat) (l0_0 : List Int) (l0_1 : List (S79)) (a0_2 : Int) (a0_3 : Bool) (a1 : Int) : Option (Int) := (laws_heldByteS.f k l0_0 a1).bind fun t534 => (if t534 < 0 then (some (-1)) else ((laws_heldPendS.f k l0_1 t534).bind fun t535 => (if t535 < 0 then (some (-1)) else (some t535))))
theorem laws_heldDisk.mono : ∀ a0 a1 a2 a3 a4 k, LeO (laws_heldDisk.f k a0 a1 a2 a3 a4) (laws_heldDisk.f (k + 1) a0 a1 a2 a3 a4) := by
  intro a0 a1 a2 a3 a4 k
  unfold laws_heldDisk.f
  repeat' first
      | (with_reducible exact laws_heldByteS.mono _ _ _)
      | (with_reducible exact laws_heldPendS.mono _ _ _)
      | (with_reducible exact LeO.refl _)
      | (with_reducible exact LeO.none _)
      | (with_reducible refine LeO.ite ?_ ?_)
      | (with_reducible refine LeO.bind ?_ (fun _ => ?_))
      | exact laws_heldByteS.mono _ _ _
      | exact laws_heldPendS.mono _ _ _
      | exact LeO.none _
      | refine LeO.ite ?_ ?_
      | refine LeO.bind ?_ (fun _ => ?_)
set_option maxHeartbeats 8000000 in
set_option maxRecDepth 100000 in
theorem laws_heldDisk.calls (k : Nat) (A0_0 : Option Addr) (c0_0 : Nat) (l0_0 : List Int) (A0_1 : Option Addr) (c0_1 : Nat) (l0_1 : List (S79)) (a0_2 : Int) (a0_3 : Bool) (a1 : Int) (r : Int) (w : World) (hr0_0 : Kd.C (Kd.int .u8) w A0_0 l0_0.length l0_0) (hc0_0 : l0_0.length ≤ c0_0) (hr0_1 : Kd.C k79 w A0_1 l0_1.length l0_1) (hc0_1 : l0_1.length ≤ c0_1) (h : laws_heldDisk.f k l0_0 l0_1 a0_2 a0_3 a1 = some r) :
    Calls Try.prog 34 #[.agg #[.slice A0_0 l0_0.length c0_0, .slice A0_1 l0_1.length c0_1, .int .i64 a0_2, .bool a0_3], .int .i64 a1] w fun e w' => e = .returned (.int .i64 r) ∧ Below w.heap.size w w' := by
  have hu25 := Try.underlying25
  have HR0_0 := Aside0.mk hr0_0
  have HC0_0 := Aside0.mk hc0_0
  clear hr0_0 hc0_0
  have HR0_1 := Aside0.mk hr0_1
  have HC0_1 := Aside0.mk hc0_1
  clear hr0_1 hc0_1
  have HB := Aside0.mk (Below.refl w.heap.size w)
  have H : ((laws_heldByteS.f k l0_0 a1).bind fun t534 => (if t534 < 0 then (some (-1)) else ((laws_heldPendS.f k l0_1 t534).bind fun t535 => (if t535 < 0 then (some (-1)) else (some t535))))) = some r := h
  clear h
  replace H := Option.bind_eq_some_iff.mp H
  obtain ⟨t534, A30, H⟩ := H
  replace H : (if t534 < 0 then (some (-1)) else ((laws_heldPendS.f k l0_1 t534).bind fun t535 => (if t535 < 0 then (some (-1)) else (some t535)))) = some r := H
  have A3 := Aside0.mk A30
  clear A30
  by_cases c4 : t534 < 0
  · rw [if_pos c4] at H
    have c4b0 : decide (t534 < 0) = true := decide_eq_true c4
    clear c4
    obtain rfl := Option.some.inj H
    go_enter Try.func34, Try.ntmps34
    go_wp2_with (first | ((with_reducible refine gate_dst (N := 2) rfl ?_); refine box_event ?hg (N := 2) ?hd (cs := #[.slice A0_0 l0_0.length c0_0, .slice A0_1 l0_1.length c0_1, .int .i64 a0_2, .bool a0_3]) (t := 25) ?hr ?_; (case hd => rfl); (case hg => rfl); (case hr => first | (go_simp; done) | (go_simp; rfl)); intro gb533 hg w5 hbox hb; have n0_ := Aside0.mk (below_step (by repeat (first | (with_reducible first | exact HB.out | apply below_alloc | apply pw_below_drewN | apply below_drew1) | exact HB.out)) hb); have n1_ := Aside0.mk (hbox); have n2_ := Aside0.mk ((by rw [hg]; exact (below_size (by repeat (first | (with_reducible first | exact HB.out | apply below_alloc | apply pw_below_drewN | apply below_drew1) | exact HB.out))) : w.heap.size ≤ gb533)); have n3_ := Aside0.mk ((by rw [hg]; exact (below_size (by repeat (first | (with_reducible first | exact HB.out | apply below_alloc | apply pw_below_drewN | apply below_drew1) | exact HB.out))) : w.heap.size ≤ gb533)); clear HB; have HB := n0_; have BK533 := n1_; have GW533 := n2_; have GE533 := n3_; clear n0_ n1_ n2_ n3_; clear hb hbox hg; have hcz6_0 : w5.cell? ⟨gb533, 0, none⟩ = some (.slice A0_0 l0_0.length c0_0) := (blk_cell BK533.out 0).trans rfl; have hcz6_1 : w5.cell? ⟨gb533, 1, none⟩ = some (.slice A0_1 l0_1.length c0_1) := (blk_cell BK533.out 1).trans rfl; have hcz6_2 : w5.cell? ⟨gb533, 2, none⟩ = some (.int .i64 a0_2) := (blk_cell BK533.out 2).trans rfl; have hcz6_3 : w5.cell? ⟨gb533, 3, none⟩ = some (.bool a0_3) := (blk_cell BK533.out 3).trans rfl; have hfz6_0 := blk_frozen BK533.out 0; have hfz6_1 := blk_frozen BK533.out 1; have hfz6_2 := blk_frozen BK533.out 2; have hfz6_3 := blk_frozen BK533.out 3) | ((with_reducible refine gate_callee (f := 74) rfl ?_); refine goesL_ (some 8) rfl rfl Try.func74 (by kernel_rfl) rfl #[.slice A0_0 l0_0.length c0_0, .int .i64 a1] rfl (by (try simp only [List.map_toArray, List.map_cons, List.map_nil]); first | done | rfl | (simp only [List.length_drop, List.length_take]; rfl)) ?_; (with_reducible refine (laws_heldByteS.calls k _ _ l0_0 a1 t534 _ ?side1 ?side2 A3.out).mono ?_); (case side1 => repeat (first | exact (Kd.C_below HR0_0.out HB.out) | (with_reducible refine Kd.C_alloc ?_ _) | (with_reducible refine Kd.C_drewN ?_ _) | (with_reducible refine Kd.C_drew ?_))); (case side2 => exact HC0_0.out); rintro e w' ⟨rfl, ⟨nd, rfl⟩⟩; refine ⟨_, rfl, ?_⟩))
    go_ret
    exact ⟨by first | rfl | (simp [errW_none, errW_some] <;> rfl) | (simp [*, errW_none, errW_some] <;> rfl), by repeat (first | (with_reducible first | exact HB.out | apply below_alloc | apply pw_below_drewN | apply below_drew1 | refine below_set ?_ GE533.out) | exact HB.out)⟩
  · rw [if_neg c4] at H
    have c4b0 : decide (t534 < 0) = false := decide_eq_false c4
    clear c4
    replace H := Option.bind_eq_some_iff.mp H
    obtain ⟨t535, A70, H⟩ := H
    replace H : (if t535 < 0 then (some (-1)) else (some t535)) = some r := H
    have A7 := Aside0.mk A70
    clear A70
    by_cases c8 : t535 < 0
    · rw [if_pos c8] at H
      have c8b0 : decide (t535 < 0) = true := decide_eq_true c8
      clear c8
      obtain rfl := Option.some.inj H
      go_enter Try.func34, Try.ntmps34
      go_wp2_with (first | ((with_reducible refine gate_dst (N := 2) rfl ?_); refine box_event ?hg (N := 2) ?hd (cs := #[.slice A0_0 l0_0.length c0_0, .slice A0_1 l0_1.length c0_1, .int .i64 a0_2, .bool a0_3]) (t := 25) ?hr ?_; (case hd => rfl); (case hg => rfl); (case hr => first | (go_simp; done) | (go_simp; rfl)); intro gb533 hg w9 hbox hb; have n0_ := Aside0.mk (below_step (by repeat (first | (with_reducible first | exact HB.out | apply below_alloc | apply pw_below_drewN | apply below_drew1) | exact HB.out)) hb); have n1_ := Aside0.mk (hbox); have n2_ := Aside0.mk ((by rw [hg]; exact (below_size (by repeat (first | (with_reducible first | exact HB.out | apply below_alloc | apply pw_below_drewN | apply below_drew1) | exact HB.out))) : w.heap.size ≤ gb533)); have n3_ := Aside0.mk ((by rw [hg]; exact (below_size (by repeat (first | (with_reducible first | exact HB.out | apply below_alloc | apply pw_below_drewN | apply below_drew1) | exact HB.out))) : w.heap.size ≤ gb533)); clear HB; have HB := n0_; have BK533 := n1_; have GW533 := n2_; have GE533 := n3_; clear n0_ n1_ n2_ n3_; clear hb hbox hg; have hcz10_0 : w9.cell? ⟨gb533, 0, none⟩ = some (.slice A0_0 l0_0.length c0_0) := (blk_cell BK533.out 0).trans rfl; have hcz10_1 : w9.cell? ⟨gb533, 1, none⟩ = some (.slice A0_1 l0_1.length c0_1) := (blk_cell BK533.out 1).trans rfl; have hcz10_2 : w9.cell? ⟨gb533, 2, none⟩ = some (.int .i64 a0_2) := (blk_cell BK533.out 2).trans rfl; have hcz10_3 : w9.cell? ⟨gb533, 3, none⟩ = some (.bool a0_3) := (blk_cell BK533.out 3).trans rfl; have hfz10_0 := blk_frozen BK533.out 0; have hfz10_1 := blk_frozen BK533.out 1; have hfz10_2 := blk_frozen BK533.out 2; have hfz10_3 := blk_frozen BK533.out 3) | ((with_reducible refine gate_callee (f := 74) rfl ?_); refine goesL_ (some 8) rfl rfl Try.func74 (by kernel_rfl) rfl #[.slice A0_0 l0_0.length c0_0, .int .i64 a1] rfl (by (try simp only [List.map_toArray, List.map_cons, List.map_nil]); first | done | rfl | (simp only [List.length_drop, List.length_take]; rfl)) ?_; (with_reducible refine (laws_heldByteS.calls k _ _ l0_0 a1 t534 _ ?side1 ?side2 A3.out).mono ?_); (case side1 => repeat (first | exact (Kd.C_below HR0_0.out HB.out) | (with_reducible refine Kd.C_alloc ?_ _) | (with_reducible refine Kd.C_drewN ?_ _) | (with_reducible refine Kd.C_drew ?_))); (case side2 => exact HC0_0.out); rintro e w' ⟨rfl, ⟨nd, rfl⟩⟩; refine ⟨_, rfl, ?_⟩) | ((with_reducible refine gate_callee (f := 83) rfl ?_); refine goesL_ (some 14) rfl rfl Try.func83 (by kernel_rfl) rfl #[.slice A0_1 l0_1.length c0_1, .int .i64 t534] rfl (by (try simp only [List.map_toArray, List.map_cons, List.map_nil]); first | done | rfl | (simp only [List.length_drop, List.length_take]; rfl)) ?_; (with_reducible refine (laws_heldPendS.calls k _ _ l0_1 t534 t535 _ ?side1 ?side2 A7.out).mono ?_); (case side1 => repeat (first | exact (Kd.C_below HR0_1.out (by repeat (first | (with_reducible first | exact HB.out | apply below_alloc | apply pw_below_drewN | apply below_drew1 | refine below_set ?_ GE533.out) | exact HB.out))) | (with_reducible refine Kd.C_alloc ?_ _) | (with_reducible refine Kd.C_drewN ?_ _) | (with_reducible refine Kd.C_drew ?_))); (case side2 => exact HC0_1.out); rintro e w' ⟨rfl, ⟨nd, rfl⟩⟩; refine ⟨_, rfl, ?_⟩))
      go_ret
      exact ⟨by first | rfl | (simp [errW_none, errW_some] <;> rfl) | (simp [*, errW_none, errW_some] <;> rfl), by repeat (first | (with_reducible first | exact HB.out | apply below_alloc | apply pw_below_drewN | apply below_drew1 | refine below_set ?_ GE533.out) | exact HB.out)⟩
    · rw [if_neg c8] at H
      have c8b0 : decide (t535 < 0) = false := decide_eq_false c8
      clear c8
      obtain rfl := Option.some.inj H
      go_enter Try.func34, Try.ntmps34
      go_wp2_with (first | ((with_reducible refine gate_dst (N := 2) rfl ?_); refine box_event ?hg (N := 2) ?hd (cs := #[.slice A0_0 l0_0.length c0_0, .slice A0_1 l0_1.length c0_1, .int .i64 a0_2, .bool a0_3]) (t := 25) ?hr ?_; (case hd => rfl); (case hg => rfl); (case hr => first | (go_simp; done) | (go_simp; rfl)); intro gb533 hg w11 hbox hb; have n0_ := Aside0.mk (below_step (by repeat (first | (with_reducible first | exact HB.out | apply below_alloc | apply pw_below_drewN | apply below_drew1) | exact HB.out)) hb); have n1_ := Aside0.mk (hbox); have n2_ := Aside0.mk ((by rw [hg]; exact (below_size (by repeat (first | (with_reducible first | exact HB.out | apply below_alloc | apply pw_below_drewN | apply below_drew1) | exact HB.out))) : w.heap.size ≤ gb533)); have n3_ := Aside0.mk ((by rw [hg]; exact (below_size (by repeat (first | (with_reducible first | exact HB.out | apply below_alloc | apply pw_below_drewN | apply below_drew1) | exact HB.out))) : w.heap.size ≤ gb533)); clear HB; have HB := n0_; have BK533 := n1_; have GW533 := n2_; have GE533 := n3_; clear n0_ n1_ n2_ n3_; clear hb hbox hg; have hcz12_0 : w11.cell? ⟨gb533, 0, none⟩ = some (.slice A0_0 l0_0.length c0_0) := (blk_cell BK533.out 0).trans rfl; have hcz12_1 : w11.cell? ⟨gb533, 1, none⟩ = some (.slice A0_1 l0_1.length c0_1) := (blk_cell BK533.out 1).trans rfl; have hcz12_2 : w11.cell? ⟨gb533, 2, none⟩ = some (.int .i64 a0_2) := (blk_cell BK533.out 2).trans rfl; have hcz12_3 : w11.cell? ⟨gb533, 3, none⟩ = some (.bool a0_3) := (blk_cell BK533.out 3).trans rfl; have hfz12_0 := blk_frozen BK533.out 0; have hfz12_1 := blk_frozen BK533.out 1; have hfz12_2 := blk_frozen BK533.out 2; have hfz12_3 := blk_frozen BK533.out 3) | ((with_reducible refine gate_callee (f := 74) rfl ?_); refine goesL_ (some 8) rfl rfl Try.func74 (by kernel_rfl) rfl #[.slice A0_0 l0_0.length c0_0, .int .i64 a1] rfl (by (try simp only [List.map_toArray, List.map_cons, List.map_nil]); first | done | rfl | (simp only [List.length_drop, List.length_take]; rfl)) ?_; (with_reducible refine (laws_heldByteS.calls k _ _ l0_0 a1 t534 _ ?side1 ?side2 A3.out).mono ?_); (case side1 => repeat (first | exact (Kd.C_below HR0_0.out HB.out) | (with_reducible refine Kd.C_alloc ?_ _) | (with_reducible refine Kd.C_drewN ?_ _) | (with_reducible refine Kd.C_drew ?_))); (case side2 => exact HC0_0.out); rintro e w' ⟨rfl, ⟨nd, rfl⟩⟩; refine ⟨_, rfl, ?_⟩) | ((with_reducible refine gate_callee (f := 83) rfl ?_); refine goesL_ (some 14) rfl rfl Try.func83 (by kernel_rfl) rfl #[.slice A0_1 l0_1.length c0_1, .int .i64 t534] rfl (by (try simp only [List.map_toArray, List.map_cons, List.map_nil]); first | done | rfl | (simp only [List.length_drop, List.length_take]; rfl)) ?_; (with_reducible refine (laws_heldPendS.calls k _ _ l0_1 t534 t535 _ ?side1 ?side2 A7.out).mono ?_); (case side1 => repeat (first | exact (Kd.C_below HR0_1.out (by repeat (first | (with_reducible first | exact HB.out | apply below_alloc | apply pw_below_drewN | apply below_drew1 | refine below_set ?_ GE533.out) | exact HB.out))) | (with_reducible refine Kd.C_alloc ?_ _) | (with_reducible refine Kd.C_drewN ?_ _) | (with_reducible refine Kd.C_drew ?_))); (case side2 => exact HC0_1.out); rintro e w' ⟨rfl, ⟨nd, rfl⟩⟩; refine ⟨_, rfl, ?_⟩))
      go_ret
      exact ⟨by first | rfl | (simp [errW_none, errW_some] <;> rfl) | (simp [*, errW_none, errW_some] <;> rfl), by repeat (first | (with_reducible first | exact HB.out | apply below_alloc | apply pw_below_drewN | apply below_drew1 | refine below_set ?_ GE533.out) | exact HB.out)⟩

/-! ### spec_RecSectors: function 46 -/
def spec_RecSectors.j0 : Nat → Int → Bool → Option (Int)
  | 0, _, _ => none
  | k + 1, x0, x8 => if x8 = true then (some 0) else (if x0 = 0 then (some 1) else (some (wrap64 (Int.tdiv (wrap64 ((wrap64 (x0 + 48)) - 1)) 48))))
def spec_RecSectors.f (k : Nat) (a0 : Int) : Option (Int) := if a0 < 0 then (spec_RecSectors.j0 k a0 true) else (spec_RecSectors.j0 k a0 (decide (a0 > 30000)))
theorem spec_RecSectors.mono_l : ∀ k, (∀ y0 y1, LeO (spec_RecSectors.j0 k y0 y1) (spec_RecSectors.j0 (k + 1) y0 y1))
  | 0 => fun _ _ r h => by simp [spec_RecSectors.j0] at h
  | k + 1 => by
    have ih0 := spec_RecSectors.mono_l k
    · intro y0 y1
      unfold spec_RecSectors.j0
      repeat' first
      | (with_reducible exact ih0 _ _)
      | (with_reducible exact LeO.refl _)
      | (with_reducible exact LeO.none _)
      | (with_reducible refine LeO.ite ?_ ?_)
      | (with_reducible refine LeO.bind ?_ (fun _ => ?_))
      | exact ih0 _ _
      | exact LeO.none _
      | refine LeO.ite ?_ ?_
      | refine LeO.bind ?_ (fun _ => ?_)
theorem spec_RecSectors.mono : ∀ a0 k, LeO (spec_RecSectors.f k a0) (spec_RecSectors.f (k + 1) a0) := by
  intro a0 k
  have ih0 := spec_RecSectors.mono_l k
  unfold spec_RecSectors.f
  repeat' first
      | (with_reducible exact ih0 _ _)
      | (with_reducible exact LeO.refl _)
      | (with_reducible exact LeO.none _)
      | (with_reducible refine LeO.ite ?_ ?_)
      | (with_reducible refine LeO.bind ?_ (fun _ => ?_))
      | exact ih0 _ _
      | exact LeO.none _
      | refine LeO.ite ?_ ?_
      | refine LeO.bind ?_ (fun _ => ?_)
set_option maxHeartbeats 8000000 in
set_option maxRecDepth 100000 in
theorem spec_RecSectors.calls (k : Nat) (a0 : Int) (r : Int) (w : World) (h : spec_RecSectors.f k a0 = some r) :
    Calls Try.prog 46 #[.int .i64 a0] w fun e w' => e = .returned (.int .i64 r) ∧ Drawn0 w w' := by
  have H : (if a0 < 0 then (spec_RecSectors.j0 k a0 true) else (spec_RecSectors.j0 k a0 (decide (a0 > 30000)))) = some r := h
  clear h
  have HC2 := Aside0.mk H
  clear H
  go_enter Try.func46, Try.ntmps46
  go_upto_region 1 with (fail)
  go_cut [8] (fun v8 wc => ∃ (kq : Nat) (x8_1 : Bool), v8 = .bool x8_1 ∧ Aside0 (spec_RecSectors.j0 kq a0 x8_1 = some r) ∧ Aside0 (kq ≤ k) ∧ Drawn0 w wc)
  case first =>
    have H := HC2.out
    clear HC2
    by_cases c3 : a0 < 0
    · rw [if_pos c3] at H
      have c3b0 : decide (a0 < 0) = true := decide_eq_true c3
      clear c3
      (first | rw [c3b0] | (simp only [i64_w, i32_w]; rw [c3b0]) | skip)
      have H' := Aside0.mk H
      clear H
      go_wp2
      go_meet
      case rel => exact ⟨_, (true), (by first | rfl | (simp; done) | (simp [*]; done)), H', ⟨by first | omega | exact Nat.le_refl _⟩, by repeat (first | exact Drawn0.refl _ | apply Drawn0.step)⟩
    · rw [if_neg c3] at H
      have c3b0 : decide (a0 < 0) = false := decide_eq_false c3
      clear c3
      (first | rw [c3b0] | (simp only [i64_w, i32_w]; rw [c3b0]) | skip)
      have H' := Aside0.mk H
      clear H
      go_wp2
      go_meet
      case rel => exact ⟨_, (decide (a0 > 30000)), (by first | rfl | (simp; done) | (simp [*]; done)), H', ⟨by first | omega | exact Nat.le_refl _⟩, by repeat (first | exact Drawn0.refl _ | apply Drawn0.step)⟩
  case rest =>
    clear HC2
    try clear p2
    try clear c3
    try clear c3b0
    obtain ⟨kq, x8_1, rfl, HA, HJ1, ⟨mc1, rfl⟩⟩ := hcut
    cases kq with
    | zero => exact absurd HA.out (by simp [spec_RecSectors.j0])
    | succ kj1 =>
      have H := HA.out
      clear HA
      simp only [spec_RecSectors.j0] at H
      by_cases c4 : x8_1 = true
      · subst c4
        have H1 : (some 0) = some r := by rw [if_pos rfl] at H; exact H
        clear H
        have H := H1
        clear H1
        obtain rfl := Option.some.inj H
        go_wp2
        go_ret
        exact ⟨by first | rfl | (simp; done) | (simp [*]; done), by repeat (first | exact Drawn0.refl _ | apply Drawn0.step)⟩
      · replace c4 := Bool.eq_false_iff.mpr c4
        subst c4
        have H1 : (if a0 = 0 then (some 1) else (some (wrap64 (Int.tdiv (wrap64 ((wrap64 (a0 + 48)) - 1)) 48)))) = some r := by rw [if_neg (show ¬ (false = true) by decide)] at H; exact H
        clear H
        have H := H1
        clear H1
        by_cases c5 : a0 = 0
        · rw [if_pos c5] at H
          have c5b0 : (a0 == 0) = true := beq_iff_eq.mpr c5
          have c5b1 : (a0 != 0) = false := bne_eq_false_iff_eq.mpr c5
          clear c5
          obtain rfl := Option.some.inj H
          go_wp2
          go_ret
          exact ⟨by first | rfl | (simp; done) | (simp [*]; done), by repeat (first | exact Drawn0.refl _ | apply Drawn0.step)⟩
        · rw [if_neg c5] at H
          have c5b0 : (a0 == 0) = false := beq_eq_false_iff_ne.mpr c5
          have c5b1 : (a0 != 0) = true := bne_iff_ne.mpr c5
          obtain rfl := Option.some.inj H
          go_wp2
          go_ret
          exact ⟨by first | rfl | (simp; done) | (simp [*]; done), by repeat (first | exact Drawn0.refl _ | apply Drawn0.step)⟩

/-! ### spec_l2Sectors: function 69 -/
mutual
def spec_l2Sectors.l0 : Nat → Int → List Int → Int → List (List Int) → Int → Option ((List (List Int)))
  | 0, _, _, _, _, _ => none
  | k + 1, x0, x1, x5, x6, x7 => if x7 < x5 then (if 0 ≤ (wrap64 (x7 * 48)) then (if (wrap64 (x7 * 48)) ≤ (x1.length : Int) then ((some (x1.drop ((wrap64 (x7 * 48)) : Int).toNat : List Int)).bind fun y594 => (if (y594.length : Int) > 48 then (if 48 ≤ (y594.length : Int) then (spec_l2Sectors.j1 k x0 x1 x5 x6 x7 (y594.take 48)) else (none)) else (spec_l2Sectors.j1 k x0 x1 x5 x6 x7 y594))) else (none)) else (none)) else (some x6)
def spec_l2Sectors.j1 : Nat → Int → List Int → Int → List (List Int) → Int → List Int → Option ((List (List Int)))
  | 0, _, _, _, _, _, _ => none
  | k + 1, x0, x1, x5, x6, x7, x8 => (spec_l2Put.f k x0 4).bind fun t604 => ((spec_l2Put.f k x7 2).bind fun t607 => ((spec_l2Put.f k x5 2).bind fun t610 => ((spec_l2Put.f k (x8.length : Int) 2).bind fun t613 => ((spec_l2Cat.f k (([t604, t607, t610, t613, (([82, 49] : List Int))] : List (List Int)))).bind fun t622 => ((spec_l1Zeros.f k (wrap64 (48 - (x8.length : Int)))).bind fun t625 => ((spec_l2Cat.f k (([t622, x8, t625] : List (List Int)))).bind fun t631 => ((spec_l2Seal.f k t631).bind fun t634 => (if x6.length < 5864062014805 then (spec_l2Sectors.l0 k x0 x1 x5 (x6 ++ [t634]) (wrap64 (x7 + 1))) else (none)))))))))
end
def spec_l2Sectors.f (k : Nat) (a0 : Int) (l1 : List Int) : Option ((List (List Int))) := (spec_RecSectors.f k (l1.length : Int)).bind fun t590 => (spec_l2Sectors.l0 k a0 l1 t590 (([] : List (List Int))) 0)
theorem spec_l2Sectors.mono_l : ∀ k, (∀ y0 y1 y2 y3 y4, LeO (spec_l2Sectors.l0 k y0 y1 y2 y3 y4) (spec_l2Sectors.l0 (k + 1) y0 y1 y2 y3 y4)) ∧ (∀ y0 y1 y2 y3 y4 y5, LeO (spec_l2Sectors.j1 k y0 y1 y2 y3 y4 y5) (spec_l2Sectors.j1 (k + 1) y0 y1 y2 y3 y4 y5))
  | 0 => ⟨fun _ _ _ _ _ r h => by simp [spec_l2Sectors.l0] at h, fun _ _ _ _ _ _ r h => by simp [spec_l2Sectors.j1] at h⟩
  | k + 1 => by
    obtain ⟨ih0, ih1⟩ := spec_l2Sectors.mono_l k
    refine ⟨?_, ?_⟩
    · intro y0 y1 y2 y3 y4
      unfold spec_l2Sectors.l0
      repeat' first
      | (with_reducible exact ih0 _ _ _ _ _)
      | (with_reducible exact ih1 _ _ _ _ _ _)
      | (with_reducible exact spec_RecSectors.mono _ _)
      | (with_reducible exact spec_l1Zeros.mono _ _)
      | (with_reducible exact spec_l2Cat.mono _ _)
      | (with_reducible exact spec_l2Put.mono _ _ _)
      | (with_reducible exact spec_l2Seal.mono _ _)
      | (with_reducible exact LeO.refl _)
      | (with_reducible exact LeO.none _)
      | (with_reducible refine LeO.ite ?_ ?_)
      | (with_reducible refine LeO.bind ?_ (fun _ => ?_))
      | exact ih0 _ _ _ _ _
      | exact ih1 _ _ _ _ _ _
      | exact spec_RecSectors.mono _ _
      | exact spec_l1Zeros.mono _ _
      | exact spec_l2Cat.mono _ _
      | exact spec_l2Put.mono _ _ _
      | exact spec_l2Seal.mono _ _
      | exact LeO.none _
      | refine LeO.ite ?_ ?_
      | refine LeO.bind ?_ (fun _ => ?_)
    · intro y0 y1 y2 y3 y4 y5
      unfold spec_l2Sectors.j1
      repeat' first
      | (with_reducible exact ih0 _ _ _ _ _)
      | (with_reducible exact ih1 _ _ _ _ _ _)
      | (with_reducible exact spec_RecSectors.mono _ _)
      | (with_reducible exact spec_l1Zeros.mono _ _)
      | (with_reducible exact spec_l2Cat.mono _ _)
      | (with_reducible exact spec_l2Put.mono _ _ _)
      | (with_reducible exact spec_l2Seal.mono _ _)
      | (with_reducible exact LeO.refl _)
      | (with_reducible exact LeO.none _)
      | (with_reducible refine LeO.ite ?_ ?_)
      | (with_reducible refine LeO.bind ?_ (fun _ => ?_))
      | exact ih0 _ _ _ _ _
      | exact ih1 _ _ _ _ _ _
      | exact spec_RecSectors.mono _ _
      | exact spec_l1Zeros.mono _ _
      | exact spec_l2Cat.mono _ _
      | exact spec_l2Put.mono _ _ _
      | exact spec_l2Seal.mono _ _
      | exact LeO.none _
      | refine LeO.ite ?_ ?_
      | refine LeO.bind ?_ (fun _ => ?_)
theorem spec_l2Sectors.mono : ∀ a0 a1 k, LeO (spec_l2Sectors.f k a0 a1) (spec_l2Sectors.f (k + 1) a0 a1) := by
  intro a0 a1 k
  obtain ⟨ih0, ih1⟩ := spec_l2Sectors.mono_l k
  unfold spec_l2Sectors.f
  repeat' first
      | (with_reducible exact ih0 _ _ _ _ _)
      | (with_reducible exact ih1 _ _ _ _ _ _)
      | (with_reducible exact spec_RecSectors.mono _ _)
      | (with_reducible exact spec_l1Zeros.mono _ _)
      | (with_reducible exact spec_l2Cat.mono _ _)
      | (with_reducible exact spec_l2Put.mono _ _ _)
      | (with_reducible exact spec_l2Seal.mono _ _)
      | (with_reducible exact LeO.refl _)
      | (with_reducible exact LeO.none _)
      | (with_reducible refine LeO.ite ?_ ?_)
      | (with_reducible refine LeO.bind ?_ (fun _ => ?_))
      | exact ih0 _ _ _ _ _
      | exact ih1 _ _ _ _ _ _
      | exact spec_RecSectors.mono _ _
      | exact spec_l1Zeros.mono _ _
      | exact spec_l2Cat.mono _ _
      | exact spec_l2Put.mono _ _ _
      | exact spec_l2Seal.mono _ _
      | exact LeO.none _
      | refine LeO.ite ?_ ?_
      | refine LeO.bind ?_ (fun _ => ?_)
set_option maxHeartbeats 8000000 in
set_option maxRecDepth 100000 in
theorem spec_l2Sectors.calls (k : Nat) (a0 : Int) (P1_ : Nat → Prop) (A1 : Option Addr) (c1 : Nat) (l1 : List Int) (r : List (List Int)) (w : World) (hs1 : Kd.V (Kd.int .u8) 5 w w.heap.size (fun k_ => P1_ k_) (.slice A1 l1.length c1) l1) (h : spec_l2Sectors.f k a0 l1 = some r) :
    Calls Try.prog 69 #[.int .i64 a0, .slice A1 l1.length c1] w fun e w' => ∃ v0_ : Value, e = .returned (v0_) ∧ Kd.N (Kd.slice 5 (Kd.int .u8)) 22 w' w.heap.size (fun k_ => (P1_ k_ ∨ w.heap.size ≤ k_)) v0_ r ∧ Below w.heap.size w w' := by
  have HO1 := Aside0.mk (show Kd.V (Kd.int .u8) 5 w w.heap.size (fun k_ => (P1_ k_ ∨ w.heap.size ≤ k_)) (.slice A1 l1.length c1) l1 from Kd.V_mono hs1 (fun k_ hk => .inl hk))
  have HB := Aside0.mk (Below.refl w.heap.size w)
  have H : ((spec_RecSectors.f k (l1.length : Int)).bind fun t590 => (spec_l2Sectors.l0 k a0 l1 t590 (([] : List (List Int))) 0)) = some r := h
  clear h
  replace H := Option.bind_eq_some_iff.mp H
  obtain ⟨t590, A30, H⟩ := H
  replace H : (spec_l2Sectors.l0 k a0 l1 t590 (([] : List (List Int))) 0) = some r := H
  have A3 := Aside0.mk A30
  clear A30
  obtain ⟨y591, hy591⟩ : ∃ y_ : List (List Int), y_ = (([] : List (List Int))) := ⟨_, rfl⟩
  replace H : (spec_l2Sectors.l0 k a0 l1 t590 y591 0) = some r := by first | (rw [hy591]; with_reducible exact H) | (have H2_ := (Option.bind_some _ _).symm.trans H; rw [hy591]; with_reducible exact H2_) | (have H2_ := (Option.bind_some _ _).symm.trans H; with_reducible exact H2_) | with_reducible exact H | (rw [hy591]; exact H) | exact H
  have Ny591 := Aside0.mk hy591
  clear hy591
  have H' := Aside0.mk H
  clear H
  go_enter Try.func69, Try.ntmps69
  go_wp2_with (first | ((with_reducible refine gate_callee (f := 46) rfl ?_); refine goesL_ (some 12) rfl rfl Try.func46 (by kernel_rfl) rfl #[.int .i64 (l1.length : Int)] rfl (by (try simp only [List.map_toArray, List.map_cons, List.map_nil]); first | done | rfl | (simp only [List.length_drop, List.length_take]; rfl)) ?_; (with_reducible refine (spec_RecSectors.calls k (l1.length : Int) t590 _ A3.out).mono ?_); rintro e w' ⟨rfl, ⟨nd, rfl⟩⟩; refine ⟨_, rfl, ?_⟩) | ((with_reducible refine gate_dst (N := 13) rfl ?_); refine Kd.N_lit (Kd.slice 5 (Kd.int .u8)) _ 22 ?hg (N' := 13) ?hd (xs := ([] : List (List Int))) (inner := []) (ok := (fun k_ => (P1_ k_ ∨ w.heap.size ≤ k_))) (okp := (fun k_ => (P1_ k_ ∨ w.heap.size ≤ k_))) ?hr ?hp (fun _ hk => hk) ((show ∀ k_, w.heap.size ≤ k_ → (fun k_ => (P1_ k_ ∨ w.heap.size ≤ k_)) k_ from fun k_ hk => (.inr (Nat.le_trans (below_size (by repeat (first | (with_reducible first | exact HB.out | apply below_alloc | apply pw_below_drewN | apply below_drew1) | exact HB.out))) hk))) _ (Nat.le_refl _)) (Below.refl _ _) (Nat.le_refl _) (by simp) ?_; (case hd => rfl); (case hg => rfl); (case hr => first | (go_simp; done) | (go_simp; rfl)); (case hp => exact (Reps.none _ _)); intro v592 w4 ho5 hb hg_ hnew_; clear hg_ hnew_; (first | rw [← Ny591.out] at ho5 | (simp only [Int.reduceToNat] at ho5; rw [← Ny591.out] at ho5)); have n0_ := Aside0.mk (Kd.V_elder' (by (with_reducible repeat (first | apply Kd.V_alloc | apply Kd.V_drewN | apply Kd.V_drew)); exact HO1.out) (Kd.N_base ho5) hb); have n1_ := Aside0.mk (Kd.N_lower ho5 (below_size (by repeat (first | (with_reducible first | exact HB.out | apply below_alloc | apply pw_below_drewN | apply below_drew1) | exact HB.out)))); have n2_ := Aside0.mk (below_step (by repeat (first | (with_reducible first | exact HB.out | apply below_alloc | apply pw_below_drewN | apply below_drew1) | exact HB.out)) hb); clear HO1; clear HB; have HO1 := n0_; have HO593 := n1_; have HB := n2_; clear n0_ n1_ n2_; clear hb ho5))
  go_loopg [6, 7] k (fun kq v6 v7 w' => ∃ (x6_1 : List (List Int)) (x7_1 : Int), v7 = .int .i64 x7_1 ∧ Aside0 (spec_l2Sectors.l0 kq a0 l1 t590 x6_1 x7_1 = some r) ∧ Aside0 (kq ≤ k) ∧ Aside0 (Kd.V (Kd.int .u8) 5 w' w.heap.size (fun k_ => (P1_ k_ ∨ w.heap.size ≤ k_) ∧ some k_ ≠ (v6 : Value).ownBlock) (.slice A1 l1.length c1) l1) ∧ Aside0 (Kd.N (Kd.slice 5 (Kd.int .u8)) 22 w' w.heap.size (fun k_ => (P1_ k_ ∨ w.heap.size ≤ k_)) v6 x6_1) ∧ Aside0 (Below w.heap.size w w'))
  case atStart => exact ⟨(y591), (0), (by first | rfl | (simp; done) | (simp [*]; done)), H', ⟨Nat.le_refl _⟩, ⟨by (with_reducible repeat (first | apply Kd.V_alloc | apply Kd.V_drewN | apply Kd.V_drew)); exact HO1.out⟩, ⟨by (with_reducible repeat (first | apply Kd.N_alloc | apply Kd.N_drewN | apply Kd.N_drew)); exact HO593.out⟩, ⟨by repeat (first | (with_reducible first | exact HB.out | apply below_alloc | apply pw_below_drewN | apply below_drew1) | exact HB.out)⟩⟩
  case round =>
    clear H'
    try clear c1
    try clear p2
    try clear c4
    obtain ⟨x6_1, x7_1, rfl, HA, HK1, HO_1, HO_6, HB⟩ := hrel
    cases gk with
    | zero => exact absurd HA.out (by simp [spec_l2Sectors.l0])
    | succ k1 =>
      have H := HA.out
      clear HA
      simp only [spec_l2Sectors.l0] at H
      by_cases c6 : x7_1 < t590
      · rw [if_pos c6] at H
        have c6b0 : decide (x7_1 < t590) = true := decide_eq_true c6
        clear c6
        obtain ⟨ji7, hji7⟩ : ∃ j_ : Int, (wrap64 (x7_1 * 48)) = j_ := ⟨_, rfl⟩
        replace H : (if 0 ≤ (ji7) then (if (ji7) ≤ (l1.length : Int) then ((some (l1.drop ((ji7) : Int).toNat : List Int)).bind fun y594 => (if (y594.length : Int) > 48 then (if 48 ≤ (y594.length : Int) then (spec_l2Sectors.j1 k1 a0 l1 t590 x6_1 x7_1 (y594.take 48)) else (none)) else (spec_l2Sectors.j1 k1 a0 l1 t590 x6_1 x7_1 y594))) else (none)) else (none)) = some r := by first | (rw [hji7] at H; exact H) | (simp only [hji7] at H ⊢; exact H)
        have hji7w : (IntKind.i64.wrap (x7_1 * 48)) = ji7 := (i64_w _).trans hji7
        by_cases c8 : 0 ≤ (ji7)
        · rw [if_pos c8] at H
          have c8b0 := eq_true c8
          have c8b1 : decide (0 ≤ (ji7)) = true := decide_eq_true c8
          clear c8
          by_cases c9 : (ji7) ≤ (l1.length : Int)
          · rw [if_pos c9] at H
            have c9b0 := eq_true c9
            have c9b1 : decide ((ji7) ≤ (l1.length : Int)) = true := decide_eq_true c9
            clear c9
            obtain ⟨y594, hy594⟩ : ∃ y_ : List Int, y_ = (l1.drop ((ji7) : Int).toNat) := ⟨_, rfl⟩
            replace H : (if (y594.length : Int) > 48 then (if 48 ≤ (y594.length : Int) then (spec_l2Sectors.j1 k1 a0 l1 t590 x6_1 x7_1 (y594.take 48)) else (none)) else (spec_l2Sectors.j1 k1 a0 l1 t590 x6_1 x7_1 y594)) = some r := by first | (rw [hy594]; with_reducible exact H) | (have H2_ := (Option.bind_some _ _).symm.trans H; rw [hy594]; with_reducible exact H2_) | (have H2_ := (Option.bind_some _ _).symm.trans H; with_reducible exact H2_) | with_reducible exact H | (rw [hy594]; exact H) | exact H
            have Ny594 := Aside0.mk hy594
            clear hy594
            have HC10 := Aside0.mk H
            clear H
            have q11 : ((ji7) : Int) ≤ ((l1.length : Int) : Int) := of_decide_eq_true (by first | (with_reducible assumption) | assumption)
            obtain ⟨i011, hi011, _, hsz11, _⟩ := info_parts info5
            have hroom11 : l1.length ≤ c1 := (Kd.V_reads' HO_1.out).2.1
            have hC11 : Kd.F (Kd.int .u8) _ _ A1 l1.length l1 := (Kd.V_at (base := w.heap.size) HO_1.out).2.2
            have q011 : (0 : Int) ≤ ((ji7) : Int) := of_decide_eq_true (by first | (with_reducible assumption) | assumption)
            have hcut11 := cut_from (P := Try.prog) 22 5 .i64 Try.underlying22 hi011 1 hsz11 A1 l1.length c1 (ji7) q011 q11
            have hr11 := Kd.F_cut (m := ((ji7) : Int).toNat) (c := c1) hC11 (by omega) hroom11
            obtain ⟨A11, hA11⟩ : ∃ A1_, A1_ = (if c1 = ((ji7) : Int).toNat then A1 else (A1 : Option Addr).map (·.add (((ji7) : Int).toNat * 1))) := ⟨_, rfl⟩
            obtain ⟨c11, hc11⟩ : ∃ c1_, c1_ = c1 - ((ji7) : Int).toNat := ⟨_, rfl⟩
            have hy11 : y594.length = l1.length - ((ji7) : Int).toNat := (by rw [Ny594.out, List.length_drop] <;> omega)
            rw [show (l1).drop ((ji7) : Int).toNat = y594 from Ny594.out.symm] at hr11
            replace hr11 : Kd.F (Kd.int .u8) _ _ A11 y594.length y594 := (by rw [hA11]; exact hr11)
            rw [← hy11, ← hA11, ← hc11] at hcut11
            have HO598 := Aside0.mk (show Kd.V (Kd.int .u8) 5 _ w.heap.size _ (.slice A11 y594.length c11) y594 from Kd.V_mk (by rw [hy11, hc11]; exact Nat.sub_le_sub_right hroom11 _) hr11)
            have HC598 := Aside0.mk (show y594.length ≤ c11 from by rw [hy11, hc11]; exact Nat.sub_le_sub_right hroom11 _)
            clear hr11 hC11 hroom11 hi011 hsz11 hc11
            have KY11 := Aside0.mk hy11
            have KA11 := Aside0.mk hA11
            clear hy11 hA11
            replace q11 := eq_true q11
            go_upto_if 25 with (fail)
            go_cut [8] (fun v8 wc => ∃ (kq : Nat) (x8_9 : List Int), Aside0 (spec_l2Sectors.j1 kq a0 l1 t590 x6_1 x7_1 x8_9 = some r) ∧ Aside0 (kq ≤ k1) ∧ Aside0 (Kd.V (Kd.int .u8) 5 wc w.heap.size (fun k_ => (P1_ k_ ∨ w.heap.size ≤ k_) ∧ some k_ ≠ (u6 : Value).ownBlock) (.slice A1 l1.length c1) l1) ∧ Aside0 (Kd.N (Kd.slice 5 (Kd.int .u8)) 22 wc w.heap.size (fun k_ => (P1_ k_ ∨ w.heap.size ≤ k_)) u6 x6_1) ∧ Aside0 (Kd.V (Kd.int .u8) 5 wc w.heap.size (fun k_ => (P1_ k_ ∨ w.heap.size ≤ k_) ∧ some k_ ≠ (u6 : Value).ownBlock) v8 x8_9) ∧ Aside0 (Below w.heap.size w wc))
            case first =>
              have H := HC10.out
              clear HC10
              by_cases c12 : (y594.length : Int) > 48
              · rw [if_pos c12] at H
                have c12b0 : decide (48 < (y594.length : Int)) = true := decide_eq_true c12
                have c12b1 : decide (48 < y594.length) = true := decide_eq_true (by omega)
                clear c12
                (first | rw [c12b0] | (simp only [i64_w, i32_w]; rw [c12b0]) | skip)
                by_cases c13 : 48 ≤ (y594.length : Int)
                · rw [if_pos c13] at H
                  have c13b0 := eq_true c13
                  have c13b1 : decide (48 ≤ (y594.length : Int)) = true := decide_eq_true c13
                  clear c13
                  obtain ⟨y599, hy599⟩ : ∃ y_ : List Int, y_ = (y594.take 48) := ⟨_, rfl⟩
                  replace H : (spec_l2Sectors.j1 k1 a0 l1 t590 x6_1 x7_1 y599) = some r := by first | (rw [hy599]; with_reducible exact H) | (have H2_ := (Option.bind_some _ _).symm.trans H; rw [hy599]; with_reducible exact H2_) | (have H2_ := (Option.bind_some _ _).symm.trans H; with_reducible exact H2_) | with_reducible exact H | (rw [hy599]; exact H) | exact H
                  have Ny599 := Aside0.mk hy599
                  clear hy599
                  have H' := Aside0.mk H
                  clear H
                  have q14 : (48 : Int) ≤ ((y594.length : Int) : Int) := of_decide_eq_true (by first | (with_reducible assumption) | assumption)
                  obtain ⟨i014, hi014, _, hsz14, _⟩ := info_parts info5
                  have hroom14 : y594.length ≤ c11 := (Kd.V_reads' HO598.out).2.1
                  have hC14 : Kd.F (Kd.int .u8) _ _ A11 y594.length y594 := (Kd.V_at (base := w.heap.size) HO598.out).2.2
                  have hcut14 := cut_to (P := Try.prog) 22 5 .i64 Try.underlying22 hi014 A11 y594.length c11 48 (by omega) q14 hroom14
                  have hr14 := Kd.F_take (m := 48) hC14 (by omega)
                  have hy14 : y599.length = (48 : Int).toNat := (by rw [Ny599.out, List.length_take]; omega)
                  rw [← Ny599.out] at hr14
                  rw [← hy14] at hcut14
                  have HO603 := Aside0.mk (show Kd.V (Kd.int .u8) 5 _ w.heap.size _ (.slice A11 y599.length c11) y599 from Kd.V_mk (by omega) hr14)
                  have HC603 := Aside0.mk (show y599.length ≤ c11 from by omega)
                  clear hr14 hC14 hroom14 hi014 hsz14
                  have KY14 := Aside0.mk hy14
                  clear hy14
                  replace q14 := eq_true q14
                  go_wp2
                  go_meet
                  case rel => exact ⟨_, (y599), H', ⟨by have := HK1.out; first | omega | exact Nat.le_refl _⟩, ⟨by (with_reducible repeat (first | apply Kd.V_alloc | apply Kd.V_drewN | apply Kd.V_drew)); exact HO_1.out⟩, ⟨by (with_reducible repeat (first | apply Kd.N_alloc | apply Kd.N_drewN | apply Kd.N_drew)); exact HO_6.out⟩, ⟨by (with_reducible repeat (first | apply Kd.V_alloc | apply Kd.V_drewN | apply Kd.V_drew)); exact HO603.out⟩, ⟨by repeat (first | (with_reducible first | exact HB.out | apply below_alloc | apply pw_below_drewN | apply below_drew1) | exact HB.out)⟩⟩
                · rw [if_neg c13] at H
                  exact absurd H (by simp)
              · rw [if_neg c12] at H
                have c12b0 : decide (48 < (y594.length : Int)) = false := decide_eq_false c12
                have c12b1 : decide (48 < y594.length) = false := decide_eq_false (by omega)
                clear c12
                (first | rw [c12b0] | (simp only [i64_w, i32_w]; rw [c12b0]) | skip)
                have H' := Aside0.mk H
                clear H
                go_wp2
                go_meet
                case rel => exact ⟨_, (y594), H', ⟨by have := HK1.out; first | omega | exact Nat.le_refl _⟩, ⟨by (with_reducible repeat (first | apply Kd.V_alloc | apply Kd.V_drewN | apply Kd.V_drew)); exact HO_1.out⟩, ⟨by (with_reducible repeat (first | apply Kd.N_alloc | apply Kd.N_drewN | apply Kd.N_drew)); exact HO_6.out⟩, ⟨by (with_reducible repeat (first | apply Kd.V_alloc | apply Kd.V_drewN | apply Kd.V_drew)); exact HO598.out⟩, ⟨by repeat (first | (with_reducible first | exact HB.out | apply below_alloc | apply pw_below_drewN | apply below_drew1) | exact HB.out)⟩⟩
            case rest =>
              clear HC10
              try clear c1
              try clear q1
              try clear p2
              try clear c4
              try clear c6
              try clear c6b0
              try clear p6
              try clear c8
              try clear c8b0
              try clear c8b1
              try clear c9
              try clear c9b0
              try clear c9b1
              try clear c11
              try clear q11
              try clear c12
              try clear c12b0
              try clear c12b1
              try clear c13
              try clear c13b0
              try clear c13b1
              try clear q14
              try clear p2
              try clear q011
              try clear q11
              try clear q14
              obtain ⟨kq, x8_9, HA, HJ9, HO_1, HO_6, HO_8, HB⟩ := hcut
              cases kq with
              | zero => exact absurd HA.out (by simp [spec_l2Sectors.j1])
              | succ kj9 =>
                have H := HA.out
                clear HA
                simp only [spec_l2Sectors.j1] at H
                replace H := Option.bind_eq_some_iff.mp H
                obtain ⟨t604, A150, H⟩ := H
                replace H : ((spec_l2Put.f kj9 x7_1 2).bind fun t607 => ((spec_l2Put.f kj9 t590 2).bind fun t610 => ((spec_l2Put.f kj9 (x8_9.length : Int) 2).bind fun t613 => ((spec_l2Cat.f kj9 (([t604, t607, t610, t613, (([82, 49] : List Int))] : List (List Int)))).bind fun t622 => ((spec_l1Zeros.f kj9 (wrap64 (48 - (x8_9.length : Int)))).bind fun t625 => ((spec_l2Cat.f kj9 (([t622, x8_9, t625] : List (List Int)))).bind fun t631 => ((spec_l2Seal.f kj9 t631).bind fun t634 => (if x6_1.length < 5864062014805 then (spec_l2Sectors.l0 kj9 a0 l1 t590 (x6_1 ++ [t634]) (wrap64 (x7_1 + 1))) else (none))))))))) = some r := H
                have A15 := Aside0.mk A150
                clear A150
                replace H := Option.bind_eq_some_iff.mp H
                obtain ⟨t607, A160, H⟩ := H
                replace H : ((spec_l2Put.f kj9 t590 2).bind fun t610 => ((spec_l2Put.f kj9 (x8_9.length : Int) 2).bind fun t613 => ((spec_l2Cat.f kj9 (([t604, t607, t610, t613, (([82, 49] : List Int))] : List (List Int)))).bind fun t622 => ((spec_l1Zeros.f kj9 (wrap64 (48 - (x8_9.length : Int)))).bind fun t625 => ((spec_l2Cat.f kj9 (([t622, x8_9, t625] : List (List Int)))).bind fun t631 => ((spec_l2Seal.f kj9 t631).bind fun t634 => (if x6_1.length < 5864062014805 then (spec_l2Sectors.l0 kj9 a0 l1 t590 (x6_1 ++ [t634]) (wrap64 (x7_1 + 1))) else (none)))))))) = some r := H
                have A16 := Aside0.mk A160
                clear A160
                replace H := Option.bind_eq_some_iff.mp H
                obtain ⟨t610, A170, H⟩ := H
                replace H : ((spec_l2Put.f kj9 (x8_9.length : Int) 2).bind fun t613 => ((spec_l2Cat.f kj9 (([t604, t607, t610, t613, (([82, 49] : List Int))] : List (List Int)))).bind fun t622 => ((spec_l1Zeros.f kj9 (wrap64 (48 - (x8_9.length : Int)))).bind fun t625 => ((spec_l2Cat.f kj9 (([t622, x8_9, t625] : List (List Int)))).bind fun t631 => ((spec_l2Seal.f kj9 t631).bind fun t634 => (if x6_1.length < 5864062014805 then (spec_l2Sectors.l0 kj9 a0 l1 t590 (x6_1 ++ [t634]) (wrap64 (x7_1 + 1))) else (none))))))) = some r := H
                have A17 := Aside0.mk A170
                clear A170
                replace H := Option.bind_eq_some_iff.mp H
                obtain ⟨t613, A180, H⟩ := H
                replace H : ((spec_l2Cat.f kj9 (([t604, t607, t610, t613, (([82, 49] : List Int))] : List (List Int)))).bind fun t622 => ((spec_l1Zeros.f kj9 (wrap64 (48 - (x8_9.length : Int)))).bind fun t625 => ((spec_l2Cat.f kj9 (([t622, x8_9, t625] : List (List Int)))).bind fun t631 => ((spec_l2Seal.f kj9 t631).bind fun t634 => (if x6_1.length < 5864062014805 then (spec_l2Sectors.l0 kj9 a0 l1 t590 (x6_1 ++ [t634]) (wrap64 (x7_1 + 1))) else (none)))))) = some r := H
                have A18 := Aside0.mk A180
                clear A180
                obtain ⟨y616, hy616⟩ : ∃ y_ : List Int, y_ = (([82, 49] : List Int)) := ⟨_, rfl⟩
                replace H : ((spec_l2Cat.f kj9 (([t604, t607, t610, t613, y616] : List (List Int)))).bind fun t622 => ((spec_l1Zeros.f kj9 (wrap64 (48 - (x8_9.length : Int)))).bind fun t625 => ((spec_l2Cat.f kj9 (([t622, x8_9, t625] : List (List Int)))).bind fun t631 => ((spec_l2Seal.f kj9 t631).bind fun t634 => (if x6_1.length < 5864062014805 then (spec_l2Sectors.l0 kj9 a0 l1 t590 (x6_1 ++ [t634]) (wrap64 (x7_1 + 1))) else (none)))))) = some r := by first | (rw [hy616]; with_reducible exact H) | (have H2_ := (Option.bind_some _ _).symm.trans H; rw [hy616]; with_reducible exact H2_) | (have H2_ := (Option.bind_some _ _).symm.trans H; with_reducible exact H2_) | with_reducible exact H | (rw [hy616]; exact H) | exact H
                have Ny616 := Aside0.mk hy616
                clear hy616
                obtain ⟨y619, hy619⟩ : ∃ y_ : List (List Int), y_ = (([t604, t607, t610, t613, y616] : List (List Int))) := ⟨_, rfl⟩
                replace H : ((spec_l2Cat.f kj9 y619).bind fun t622 => ((spec_l1Zeros.f kj9 (wrap64 (48 - (x8_9.length : Int)))).bind fun t625 => ((spec_l2Cat.f kj9 (([t622, x8_9, t625] : List (List Int)))).bind fun t631 => ((spec_l2Seal.f kj9 t631).bind fun t634 => (if x6_1.length < 5864062014805 then (spec_l2Sectors.l0 kj9 a0 l1 t590 (x6_1 ++ [t634]) (wrap64 (x7_1 + 1))) else (none)))))) = some r := by first | (rw [hy619]; with_reducible exact H) | (have H2_ := (Option.bind_some _ _).symm.trans H; rw [hy619]; with_reducible exact H2_) | (have H2_ := (Option.bind_some _ _).symm.trans H; with_reducible exact H2_) | with_reducible exact H | (rw [hy619]; exact H) | exact H
                have Ny619 := Aside0.mk hy619
                clear hy619
                replace H := Option.bind_eq_some_iff.mp H
                obtain ⟨t622, A190, H⟩ := H
                replace H : ((spec_l1Zeros.f kj9 (wrap64 (48 - (x8_9.length : Int)))).bind fun t625 => ((spec_l2Cat.f kj9 (([t622, x8_9, t625] : List (List Int)))).bind fun t631 => ((spec_l2Seal.f kj9 t631).bind fun t634 => (if x6_1.length < 5864062014805 then (spec_l2Sectors.l0 kj9 a0 l1 t590 (x6_1 ++ [t634]) (wrap64 (x7_1 + 1))) else (none))))) = some r := H
                have A19 := Aside0.mk A190
                clear A190
                replace H := Option.bind_eq_some_iff.mp H
                obtain ⟨t625, A200, H⟩ := H
                replace H : ((spec_l2Cat.f kj9 (([t622, x8_9, t625] : List (List Int)))).bind fun t631 => ((spec_l2Seal.f kj9 t631).bind fun t634 => (if x6_1.length < 5864062014805 then (spec_l2Sectors.l0 kj9 a0 l1 t590 (x6_1 ++ [t634]) (wrap64 (x7_1 + 1))) else (none)))) = some r := H
                have A20 := Aside0.mk A200
                clear A200
                obtain ⟨y628, hy628⟩ : ∃ y_ : List (List Int), y_ = (([t622, x8_9, t625] : List (List Int))) := ⟨_, rfl⟩
                replace H : ((spec_l2Cat.f kj9 y628).bind fun t631 => ((spec_l2Seal.f kj9 t631).bind fun t634 => (if x6_1.length < 5864062014805 then (spec_l2Sectors.l0 kj9 a0 l1 t590 (x6_1 ++ [t634]) (wrap64 (x7_1 + 1))) else (none)))) = some r := by first | (rw [hy628]; with_reducible exact H) | (have H2_ := (Option.bind_some _ _).symm.trans H; rw [hy628]; with_reducible exact H2_) | (have H2_ := (Option.bind_some _ _).symm.trans H; with_reducible exact H2_) | with_reducible exact H | (rw [hy628]; exact H) | exact H
                have Ny628 := Aside0.mk hy628
                clear hy628
                replace H := Option.bind_eq_some_iff.mp H
                obtain ⟨t631, A210, H⟩ := H
                replace H : ((spec_l2Seal.f kj9 t631).bind fun t634 => (if x6_1.length < 5864062014805 then (spec_l2Sectors.l0 kj9 a0 l1 t590 (x6_1 ++ [t634]) (wrap64 (x7_1 + 1))) else (none))) = some r := H
                have A21 := Aside0.mk A210
                clear A210
                replace H := Option.bind_eq_some_iff.mp H
                obtain ⟨t634, A220, H⟩ := H
                replace H : (if x6_1.length < 5864062014805 then (spec_l2Sectors.l0 kj9 a0 l1 t590 (x6_1 ++ [t634]) (wrap64 (x7_1 + 1))) else (none)) = some r := H
                have A22 := Aside0.mk A220
                clear A220
                by_cases c23 : x6_1.length < 5864062014805
                · rw [if_pos c23] at H
                  have LMc23 := Aside0.mk c23
                  clear c23
                  obtain ⟨y637, hy637⟩ : ∃ y_ : List (List Int), y_ = (x6_1 ++ [t634]) := ⟨_, rfl⟩
                  replace H : (spec_l2Sectors.l0 kj9 a0 l1 t590 y637 (wrap64 (x7_1 + 1))) = some r := by first | (rw [hy637]; with_reducible exact H) | (have H2_ := (Option.bind_some _ _).symm.trans H; rw [hy637]; with_reducible exact H2_) | (have H2_ := (Option.bind_some _ _).symm.trans H; with_reducible exact H2_) | with_reducible exact H | (rw [hy637]; exact H) | exact H
                  have Ny637 := Aside0.mk hy637
                  clear hy637
                  have H' := Aside0.mk H
                  clear H
                  obtain ⟨Ao27, co27, eo27⟩ := Kd.V_slice HO_8.out
                  subst eo27
                  have H0 := Aside0.mk (Below.refl wc.heap.size wc)
                  have XR := Aside0.mk (show RW wc Ao27 co27 x8_9 from ⟨(Kd.V_reads' HO_8.out).2.1, (Kd.V_reads' HO_8.out).2.2⟩)
                  clear HO_8
                  go_wp2_with fail
                  refine (spec_l2Put.calls kj9 a0 4 t604 _ A15.out).mono ?_
                  rintro e W1 ⟨v_, rfl, ho0, hb⟩
                  obtain ⟨B1, d1, rfl⟩ := Kd.R_slice ho0
                  have F1 := Aside0.mk (RW.of_R ho0)
                  replace H0 := Aside0.mk (below_step H0.out hb)
                  clear ho0 hb
                  go_wp2_with fail
                  refine (spec_l2Put.calls kj9 x7_1 2 t607 _ A16.out).mono ?_
                  rintro e W2 ⟨v_, rfl, ho0, hb⟩
                  obtain ⟨B2, d2, rfl⟩ := Kd.R_slice ho0
                  have F2 := Aside0.mk (RW.of_R ho0)
                  replace F1 := Aside0.mk (F1.out.below hb)
                  replace H0 := Aside0.mk (below_step H0.out hb)
                  clear ho0 hb
                  go_wp2_with fail
                  refine (spec_l2Put.calls kj9 t590 2 t610 _ A17.out).mono ?_
                  rintro e W3 ⟨v_, rfl, ho0, hb⟩
                  obtain ⟨B3, d3, rfl⟩ := Kd.R_slice ho0
                  have F3 := Aside0.mk (RW.of_R ho0)
                  replace F1 := Aside0.mk (F1.out.below hb)
                  replace F2 := Aside0.mk (F2.out.below hb)
                  replace H0 := Aside0.mk (below_step H0.out hb)
                  clear ho0 hb
                  go_wp2_with fail
                  refine (spec_l2Put.calls kj9 (x8_9.length : Int) 2 t613 _ A18.out).mono ?_
                  rintro e W4 ⟨v_, rfl, ho0, hb⟩
                  obtain ⟨B4, d4, rfl⟩ := Kd.R_slice ho0
                  have F4 := Aside0.mk (RW.of_R ho0)
                  replace F1 := Aside0.mk (F1.out.below hb)
                  replace F2 := Aside0.mk (F2.out.below hb)
                  replace F3 := Aside0.mk (F3.out.below hb)
                  replace H0 := Aside0.mk (below_step H0.out hb)
                  clear ho0 hb
                  have hlit : LitB (W4.alloc (.cells #[.int .u8 82, .int .u8 49] 5)) wc.heap.size W4.heap.size [82, 49] false := LitB.made (base := wc.heap.size) W4 [82, 49] H0.out.size
                  have hmk : (convert 22 22 (.slice (some ⟨W4.heap.size, 0, none⟩) 2 2)).run Try.prog (W4.alloc (.cells #[.int .u8 82, .int .u8 49] 5)) = .ok (.slice (some ⟨W4.heap.size, 0, none⟩) 2 2) ((W4.alloc (.cells #[.int .u8 82, .int .u8 49] 5)).freeze ⟨W4.heap.size, 2, none⟩ 1) := mark_run 22 2 2 Try.underlying22 hlit
                  have hb1 := below_alloc (Below.refl W4.heap.size W4) (.cells #[.int .u8 82, .int .u8 49] 5)
                  have F5 := Aside0.mk (show RW ((W4.alloc (.cells #[.int .u8 82, .int .u8 49] 5)).freeze ⟨W4.heap.size, 2, none⟩ 1) (some ⟨W4.heap.size, 0, none⟩) 2 y616 by rw [Ny616.out]; exact (mark_self hlit).rw (by decide))
                  have hl5 : y616.length = 2 := by rw [Ny616.out]; rfl
                  replace F1 := Aside0.mk ((F1.out.below hb1).mark hlit)
                  replace F2 := Aside0.mk ((F2.out.below hb1).mark hlit)
                  replace F3 := Aside0.mk ((F3.out.below hb1).mark hlit)
                  replace F4 := Aside0.mk ((F4.out.below hb1).mark hlit)
                  replace H0 := Aside0.mk (below_mark (by have := H0.out.size; omega) (below_step H0.out hb1) hlit)
                  have HL5 := Aside0.mk hl5
                  go_wp2_with fail
                  clear hmk hb1 hlit hl5
                  generalize ((W4.alloc (.cells #[.int .u8 82, .int .u8 49] 5)).freeze ⟨W4.heap.size, 2, none⟩ 1) = W5 at *
                  generalize W4.heap.size = g5 at *
                  have h5 : y619.length = 5 := by rw [Ny619.out]; rfl
                  have hM : RWs (W5.alloc (.cells #[.slice B1 t604.length d1, .slice B2 t607.length d2, .slice B3 t610.length d3, .slice B4 t613.length d4, .slice (some ⟨g5, 0, none⟩) 2 2] 22)) W5.heap.size y619 := by
                    rw [Ny619.out]
                    refine RWs.made W5 _ [.slice B1 t604.length d1, .slice B2 t607.length d2, .slice B3 t610.length d3, .slice B4 t613.length d4, .slice (some ⟨g5, 0, none⟩) 2 2] (by simp) rfl (fun j xs hj => ?_)
                    match j, hj with
                    | 0, hj => exact ⟨_, _, by cases hj; rfl, by cases hj; exact F1.out⟩
                    | 1, hj => exact ⟨_, _, by cases hj; rfl, by cases hj; exact F2.out⟩
                    | 2, hj => exact ⟨_, _, by cases hj; rfl, by cases hj; exact F3.out⟩
                    | 3, hj => exact ⟨_, _, by cases hj; rfl, by cases hj; exact F4.out⟩
                    | 4, hj => exact ⟨some ⟨g5, 0, none⟩, 2, by cases hj; show some (Value.slice (some ⟨g5, 0, none⟩) 2 2) = some (Value.slice (some ⟨g5, 0, none⟩) y616.length 2); rw [HL5.out], by cases hj; exact F5.out⟩
                    | _ + 5, hj => simp at hj
                  have hcat := spec_l2Cat.calls kj9 (some ⟨W5.heap.size, 0, none⟩) 5 y619 t622 _ hM (by rw [h5]; exact Nat.le_refl _) A19.out
                  rw [h5] at hcat
                  refine hcat.mono ?_
                  rintro e W6 ⟨v_, rfl, ho0, hb⟩
                  obtain ⟨B6, d6, rfl⟩ := Kd.R_slice ho0
                  have F6 := Aside0.mk (RW.of_R ho0)
                  replace H0 := Aside0.mk (below_step (below_alloc H0.out _) hb)
                  clear ho0 hb hM hcat F1 F2 F3 F4 F5
                  go_wp2_with fail
                  refine (spec_l1Zeros.calls kj9 (wrap64 (48 - (x8_9.length : Int))) t625 _ A20.out).mono ?_
                  rintro e W7 ⟨v_, rfl, ho0, hb⟩
                  obtain ⟨B7, d7, rfl⟩ := Kd.R_slice ho0
                  have F7 := Aside0.mk (RW.of_R ho0)
                  replace F6 := Aside0.mk (F6.out.below hb)
                  replace H0 := Aside0.mk (below_step H0.out hb)
                  clear ho0 hb
                  go_wp2_with fail
                  have h3 : y628.length = 3 := by rw [Ny628.out]; rfl
                  have hM : RWs (W7.alloc (.cells #[.slice B6 t622.length d6, .slice Ao27 x8_9.length co27, .slice B7 t625.length d7] 22)) W7.heap.size y628 := by
                    rw [Ny628.out]
                    refine RWs.made W7 _ [.slice B6 t622.length d6, .slice Ao27 x8_9.length co27, .slice B7 t625.length d7] (by simp) rfl (fun j xs hj => ?_)
                    match j, hj with
                    | 0, hj => exact ⟨_, _, by cases hj; rfl, by cases hj; exact F6.out⟩
                    | 1, hj => exact ⟨_, _, by cases hj; rfl, by cases hj; exact XR.out.below H0.out⟩
                    | 2, hj => exact ⟨_, _, by cases hj; rfl, by cases hj; exact F7.out⟩
                    | _ + 3, hj => simp at hj
                  have hcat := spec_l2Cat.calls kj9 (some ⟨W7.heap.size, 0, none⟩) 3 y628 t631 _ hM (by rw [h3]; exact Nat.le_refl _) A21.out
                  rw [h3] at hcat
                  refine hcat.mono ?_
                  rintro e W8 ⟨v_, rfl, ho0, hb⟩
                  obtain ⟨B8, d8, rfl⟩ := Kd.R_slice ho0
                  have HV := Aside0.mk (show Kd.V (Kd.int .u8) 5 W8 W8.heap.size (fun _ => True) (.slice B8 t631.length d8) t631 from Kd.R_V ho0)
                  replace H0 := Aside0.mk (below_step (below_alloc H0.out _) hb)
                  clear ho0 hb hM hcat F6 F7 XR
                  go_wp2_with fail
                  refine (spec_l2Seal.calls kj9 (fun _ => True) B8 d8 t631 t634 _ HV.out A22.out).mono ?_
                  rintro e W9 ⟨v_, rfl, ho0, hb⟩
                  obtain ⟨B9, d9, rfl⟩ := Kd.R_slice ho0
                  have hs8 := H0.out.size
                  replace H0 := Aside0.mk (below_step H0.out hb)
                  have hR := Aside0.mk ho0
                  have hsw := HB.out.size
                  have hN := Kd.N_below HO_6.out H0.out
                  have hV := Kd.V_below HO_1.out H0.out
                  have hlt6 := Kd.N_lt HO_6.out
                  have hE : Kd.R (Kd.int .u8) 5 W9 W8.heap.size (fun k_ => (P1_ k_ ∨ w.heap.size ≤ k_) ∧ some k_ ≠ (u6 : Value).ownBlock) (.slice B9 t634.length d9) t634 := Kd.R_mono ho0 (fun k_ hk => ⟨.inr (by omega), fun he => by have := hlt6 k_ he.symm; omega⟩)
                  have HN := Aside0.mk hN
                  have HV2 := Aside0.mk hV
                  have HE := Aside0.mk hE
                  have HBW := Aside0.mk (below_step HB.out H0.out)
                  clear ho0 hb hN hV hE HV
                  go_wp2_with ((with_reducible refine gate_builtin (b := .append) (xs := #[.tmp 41, .tmp 51]) rfl ?_); at_builtin; refine Kd.N_append (Kd.slice 5 (Kd.int .u8)) (w0 := w) w.heap.size rfl (.tmp 41) (.tmp 51) 98 22 (.slice none 0 0) 24 rfl Try.underlying98 info22 rfl (by decide) (by omega) u6 x6_1 t634 [.slice B9 t634.length d9] (fun k_ => (P1_ k_ ∨ w.heap.size ≤ k_)) (fun k_ => (P1_ k_ ∨ w.heap.size ≤ k_) ∧ some k_ ≠ (u6 : Value).ownBlock) rfl rfl ?aP (fun _ hk => hk) ?aF ?aO ?aB ?aS ?aL ?_; (case aP => exact Kd.FK_slice_mk (Kd.R_reads' HE.out).2.1 (Kd.R_F HE.out)); (case aB => exact HBW.out); (case aF => exact fun k_ hk => .inr (Nat.le_trans HBW.out.size hk)); (case aO => exact HN.out); (case aS => exact HBW.out.size); (case aL => have := LMc23.out; omega); intro v638 w49 ho hb hg hat; rw [← Ny637.out] at ho; have n0_ := Aside0.mk (Kd.V_afterv (ok := (fun k_ => (P1_ k_ ∨ w.heap.size ≤ k_))) HV2.out hg hat); have n1_ := Aside0.mk ho; have n2_ := Aside0.mk hb; clear HO_1; clear HB; clear HO_6; have HO_1 := n0_; have HO639 := n1_; have HB := n2_; clear n0_ n1_ n2_; clear ho hb hg hat HN HV2 HE HBW)
                  go_roundg kj9
                  case measure => have := HK1.out; have := HJ9.out; omega
                  case rel => exact ⟨(y637), (wrap64 (x7_1 + 1)), (by first | rfl | (simp; done) | (simp [*]; done)), H', ⟨by have := HK1.out; have := HJ9.out; omega⟩, HO_1, HO639, HB⟩
                · rw [if_neg c23] at H
                  exact absurd H (by simp)
          · rw [if_neg c9] at H
            exact absurd H (by simp)
        · rw [if_neg c8] at H
          exact absurd H (by simp)
      · rw [if_neg c6] at H
        have c6b0 : decide (x7_1 < t590) = false := decide_eq_false c6
        clear c6
        obtain rfl := Option.some.inj H
        go_wp2
        go_ret
        exact ⟨_, by first | rfl | (simp [errW_none, errW_some] <;> rfl) | (simp [*, errW_none, errW_some] <;> rfl), by (with_reducible repeat (first | apply Kd.N_alloc | apply Kd.N_drewN | apply Kd.N_drew)); exact HO_6.out, by repeat (first | (with_reducible first | exact HB.out | apply below_alloc | apply pw_below_drewN | apply below_drew1) | exact HB.out)⟩

/-! ### spec_ReadRec: function 25 -/
mutual
def spec_ReadRec.j0 : Nat → Int → Int → Bool → List Int → List (S79) → Int → Bool → Option (Bool × List Int × Int)
  | 0, _, _, _, _, _, _, _ => none
  | k + 1, x1, x2, x30, x641000, x641001, x641002, x641003 => if x30 = true then (some (false, ([] : List Int), 0)) else ((spec_DiskRead.f k x641000 x641001 x641002 x641003 x1).bind fun t645 => (if 6 ≤ 8 then (if 8 ≤ (t645.length : Int) then ((spec_l2Get.f k ((t645.take 8).drop 6)).bind fun t653 => (if t653 < 1 then (spec_ReadRec.j1 k x1 x2 t653 true x641000 x641001 x641002 x641003) else ((spec_l1Sectors.f x641000 x641001 x641002 x641003).bind fun t654 => (spec_ReadRec.j1 k x1 x2 t653 (decide ((wrap64 (x1 + t653)) > t654)) x641000 x641001 x641002 x641003)))) else (none)) else (none)))
def spec_ReadRec.j1 : Nat → Int → Int → Int → Bool → List Int → List (S79) → Int → Bool → Option (Bool × List Int × Int)
  | 0, _, _, _, _, _, _, _, _ => none
  | k + 1, x1, x2, x7, x46, x641000, x641001, x641002, x641003 => if x46 = true then (some (false, ([] : List Int), 0)) else (spec_ReadRec.l0 k x1 x2 x7 (([] : List Int)) (([] : List Int)) 0 x641000 x641001 x641002 x641003)
def spec_ReadRec.l0 : Nat → Int → Int → Int → List Int → List Int → Int → List Int → List (S79) → Int → Bool → Option (Bool × List Int × Int)
  | 0, _, _, _, _, _, _, _, _, _, _ => none
  | k + 1, x1, x2, x7, x8, x9, x10, x641000, x641001, x641002, x641003 => if x10 < x7 then ((spec_DiskRead.f k x641000 x641001 x641002 x641003 (wrap64 (x1 + x10))).bind fun t661 => (if 8 ≤ 10 then (if 10 ≤ (t661.length : Int) then ((spec_l2Get.f k ((t661.take 10).drop 8)).bind fun t669 => (if t669 > 48 then (some (false, ([] : List Int), 0)) else (if 12 ≤ (wrap64 (12 + t669)) then (if (wrap64 (12 + t669)) ≤ (t661.length : Int) then ((some ((t661.take ((wrap64 (12 + t669)) : Int).toNat).drop 12 : List Int)).bind fun y670 => (if x8.length + y670.length < 140737488355328 then (if x9.length + t661.length < 140737488355328 then (spec_ReadRec.l0 k x1 x2 x7 (x8 ++ y670) (x9 ++ t661) (wrap64 (x10 + 1)) x641000 x641001 x641002 x641003) else (none)) else (none))) else (none)) else (none)))) else (none)) else (none))) else (if (x8.length : Int) > 30000 then (some (false, ([] : List Int), 0)) else ((spec_l2Sectors.f k x2 x8).bind fun t681 => ((spec_l2Cat.f k t681).bind fun t684 => (if (strOfNums t684).toList = (strOfNums x9).toList then (some (true, x8, x7)) else (some (false, ([] : List Int), 0))))))
end
def spec_ReadRec.f (k : Nat) (l0_0 : List Int) (l0_1 : List (S79)) (a0_2 : Int) (a0_3 : Bool) (a1 : Int) (a2 : Int) : Option (Bool × List Int × Int) := (spec_ValidDisk.f k l0_0 l0_1 a0_2 a0_3).bind fun t642 => (if t642 = true then ((spec_l2Number.f a2).bind fun t643 => (if t643 = true then (if a1 < 0 then (spec_ReadRec.j0 k a1 a2 true l0_0 l0_1 a0_2 a0_3) else ((spec_l1Sectors.f l0_0 l0_1 a0_2 a0_3).bind fun t644 => (spec_ReadRec.j0 k a1 a2 (decide (a1 ≥ t644)) l0_0 l0_1 a0_2 a0_3))) else (spec_ReadRec.j0 k a1 a2 true l0_0 l0_1 a0_2 a0_3))) else (spec_ReadRec.j0 k a1 a2 true l0_0 l0_1 a0_2 a0_3))
theorem spec_ReadRec.mono_l : ∀ k, (∀ y0 y1 y2 y3 y4 y5 y6, LeO (spec_ReadRec.j0 k y0 y1 y2 y3 y4 y5 y6) (spec_ReadRec.j0 (k + 1) y0 y1 y2 y3 y4 y5 y6)) ∧ (∀ y0 y1 y2 y3 y4 y5 y6 y7, LeO (spec_ReadRec.j1 k y0 y1 y2 y3 y4 y5 y6 y7) (spec_ReadRec.j1 (k + 1) y0 y1 y2 y3 y4 y5 y6 y7)) ∧ (∀ y0 y1 y2 y3 y4 y5 y6 y7 y8 y9, LeO (spec_ReadRec.l0 k y0 y1 y2 y3 y4 y5 y6 y7 y8 y9) (spec_ReadRec.l0 (k + 1) y0 y1 y2 y3 y4 y5 y6 y7 y8 y9))
  | 0 => ⟨fun _ _ _ _ _ _ _ r h => by simp [spec_ReadRec.j0] at h, fun _ _ _ _ _ _ _ _ r h => by simp [spec_ReadRec.j1] at h, fun _ _ _ _ _ _ _ _ _ _ r h => by simp [spec_ReadRec.l0] at h⟩
  | k + 1 => by
    obtain ⟨ih0, ih1, ih2⟩ := spec_ReadRec.mono_l k
    refine ⟨?_, ?_, ?_⟩
    · intro y0 y1 y2 y3 y4 y5 y6
      unfold spec_ReadRec.j0
      repeat' first
      | (with_reducible exact ih0 _ _ _ _ _ _ _)
      | (with_reducible exact ih1 _ _ _ _ _ _ _ _)
      | (with_reducible exact ih2 _ _ _ _ _ _ _ _ _ _)
      | (with_reducible exact spec_DiskRead.mono _ _ _ _ _ _)
      | (with_reducible exact spec_ValidDisk.mono _ _ _ _ _)
      | (with_reducible exact spec_l2Cat.mono _ _)
      | (with_reducible exact spec_l2Get.mono _ _)
      | (with_reducible exact spec_l2Sectors.mono _ _ _)
      | (with_reducible exact LeO.refl _)
      | (with_reducible exact LeO.none _)
      | (with_reducible refine LeO.ite ?_ ?_)
      | (with_reducible refine LeO.bind ?_ (fun _ => ?_))
      | exact ih0 _ _ _ _ _ _ _
      | exact ih1 _ _ _ _ _ _ _ _
      | exact ih2 _ _ _ _ _ _ _ _ _ _
      | exact spec_DiskRead.mono _ _ _ _ _ _
      | exact spec_ValidDisk.mono _ _ _ _ _
      | exact spec_l2Cat.mono _ _
      | exact spec_l2Get.mono _ _
      | exact spec_l2Sectors.mono _ _ _
      | exact LeO.none _
      | refine LeO.ite ?_ ?_
      | refine LeO.bind ?_ (fun _ => ?_)
    · intro y0 y1 y2 y3 y4 y5 y6 y7
      unfold spec_ReadRec.j1
      repeat' first
      | (with_reducible exact ih0 _ _ _ _ _ _ _)
      | (with_reducible exact ih1 _ _ _ _ _ _ _ _)
      | (with_reducible exact ih2 _ _ _ _ _ _ _ _ _ _)
      | (with_reducible exact spec_DiskRead.mono _ _ _ _ _ _)
      | (with_reducible exact spec_ValidDisk.mono _ _ _ _ _)
      | (with_reducible exact spec_l2Cat.mono _ _)
      | (with_reducible exact spec_l2Get.mono _ _)
      | (with_reducible exact spec_l2Sectors.mono _ _ _)
      | (with_reducible exact LeO.refl _)
      | (with_reducible exact LeO.none _)
      | (with_reducible refine LeO.ite ?_ ?_)
      | (with_reducible refine LeO.bind ?_ (fun _ => ?_))
      | exact ih0 _ _ _ _ _ _ _
      | exact ih1 _ _ _ _ _ _ _ _
      | exact ih2 _ _ _ _ _ _ _ _ _ _
      | exact spec_DiskRead.mono _ _ _ _ _ _
      | exact spec_ValidDisk.mono _ _ _ _ _
      | exact spec_l2Cat.mono _ _
      | exact spec_l2Get.mono _ _
      | exact spec_l2Sectors.mono _ _ _
      | exact LeO.none _
      | refine LeO.ite ?_ ?_
      | refine LeO.bind ?_ (fun _ => ?_)
    · intro y0 y1 y2 y3 y4 y5 y6 y7 y8 y9
      unfold spec_ReadRec.l0
      repeat' first
      | (with_reducible exact ih0 _ _ _ _ _ _ _)
      | (with_reducible exact ih1 _ _ _ _ _ _ _ _)
      | (with_reducible exact ih2 _ _ _ _ _ _ _ _ _ _)
      | (with_reducible exact spec_DiskRead.mono _ _ _ _ _ _)
      | (with_reducible exact spec_ValidDisk.mono _ _ _ _ _)
      | (with_reducible exact spec_l2Cat.mono _ _)
      | (with_reducible exact spec_l2Get.mono _ _)
      | (with_reducible exact spec_l2Sectors.mono _ _ _)
      | (with_reducible exact LeO.refl _)
      | (with_reducible exact LeO.none _)
      | (with_reducible refine LeO.ite ?_ ?_)
      | (with_reducible refine LeO.bind ?_ (fun _ => ?_))
      | exact ih0 _ _ _ _ _ _ _
      | exact ih1 _ _ _ _ _ _ _ _
      | exact ih2 _ _ _ _ _ _ _ _ _ _
      | exact spec_DiskRead.mono _ _ _ _ _ _
      | exact spec_ValidDisk.mono _ _ _ _ _
      | exact spec_l2Cat.mono _ _
      | exact spec_l2Get.mono _ _
      | exact spec_l2Sectors.mono _ _ _
      | exact LeO.none _
      | refine LeO.ite ?_ ?_
      | refine LeO.bind ?_ (fun _ => ?_)
theorem spec_ReadRec.mono : ∀ a0 a1 a2 a3 a4 a5 k, LeO (spec_ReadRec.f k a0 a1 a2 a3 a4 a5) (spec_ReadRec.f (k + 1) a0 a1 a2 a3 a4 a5) := by
  intro a0 a1 a2 a3 a4 a5 k
  obtain ⟨ih0, ih1, ih2⟩ := spec_ReadRec.mono_l k
  unfold spec_ReadRec.f
  repeat' first
      | (with_reducible exact ih0 _ _ _ _ _ _ _)
      | (with_reducible exact ih1 _ _ _ _ _ _ _ _)
      | (with_reducible exact ih2 _ _ _ _ _ _ _ _ _ _)
      | (with_reducible exact spec_DiskRead.mono _ _ _ _ _ _)
      | (with_reducible exact spec_ValidDisk.mono _ _ _ _ _)
      | (with_reducible exact spec_l2Cat.mono _ _)
      | (with_reducible exact spec_l2Get.mono _ _)
      | (with_reducible exact spec_l2Sectors.mono _ _ _)
      | (with_reducible exact LeO.refl _)
      | (with_reducible exact LeO.none _)
      | (with_reducible refine LeO.ite ?_ ?_)
      | (with_reducible refine LeO.bind ?_ (fun _ => ?_))
      | exact ih0 _ _ _ _ _ _ _
      | exact ih1 _ _ _ _ _ _ _ _
      | exact ih2 _ _ _ _ _ _ _ _ _ _
      | exact spec_DiskRead.mono _ _ _ _ _ _
      | exact spec_ValidDisk.mono _ _ _ _ _
      | exact spec_l2Cat.mono _ _
      | exact spec_l2Get.mono _ _
      | exact spec_l2Sectors.mono _ _ _
      | exact LeO.none _
      | refine LeO.ite ?_ ?_
      | refine LeO.bind ?_ (fun _ => ?_)

/-! ### yimpl_piece: a text by hand -/
-- import Derived.StillTailTactics
-- import Derived.Laws.CopyOwn
-- import Derived.Laws.CopyRow
-- import Derived.Laws.IdiomCopy
-- import Derived.Lib.BufferWrite
theorem r1_row : ∀ (x : List Int), 12 ≤ x.length → ((x.map (Value.int .u8)).toArray.toList.take 10 ++ Go.Lib.byteCells (⟨#[82, 49]⟩ : ByteArray).data.toList ++ (x.map (Value.int .u8)).toArray.toList.drop (10 + (⟨#[82, 49]⟩ : ByteArray).size)) = ((x.set 10 82).set 11 49).map (Value.int .u8)
  | a0 :: a1 :: a2 :: a3 :: a4 :: a5 :: a6 :: a7 :: a8 :: a9 :: a10 :: a11 :: t, _ => rfl
  | [], h => by simp at h
  | [_], h => by simp at h
  | [_, _], h => by simp at h
  | [_, _, _], h => by simp at h
  | [_, _, _, _], h => by simp at h
  | [_, _, _, _, _], h => by simp at h
  | [_, _, _, _, _, _], h => by simp at h
  | [_, _, _, _, _, _, _], h => by simp at h
  | [_, _, _, _, _, _, _, _], h => by simp at h
  | [_, _, _, _, _, _, _, _, _], h => by simp at h
  | [_, _, _, _, _, _, _, _, _, _], h => by simp at h
  | [_, _, _, _, _, _, _, _, _, _, _], h => by simp at h
def cp12 (x part : List Int) : List Int := x.take 12 ++ part ++ x.drop (12 + part.length)
def pHead (seq i k n : Int) : Option (List Int) := (impl_put.f 5 (List.replicate 64 0) 0 4 seq).bind fun x1 => (impl_put.f 5 x1 4 2 i).bind fun x2 => (impl_put.f 5 x2 6 2 k).bind fun x3 => impl_put.f 5 x3 8 2 n
def cPiece (kc : Nat) (seq i k : Int) (part : List Int) : Option (List Int) := (pHead seq i k part.length).bind fun x => (spec_Crc32.f kc ((cp12 ((x.set 10 82).set 11 49) part).take 60)).bind fun cr => impl_put.f 5 (cp12 ((x.set 10 82).set 11 49) part) 60 4 cr
theorem cp12_len (x part : List Int) (h : x.length = 64) (hp : part.length ≤ 48) : (cp12 x part).length = 64 := by
  simp [cp12]
  omega
set_option maxHeartbeats 4000000 in
set_option maxRecDepth 100000 in
/-- piece: a sector of a record. -/
theorem impl_piece_arr (kc : Nat) (seq i k : Int) (A : Option Addr) (c : Nat) (part : List Int) (r : List Int) (w : World) (hr0 : Kd.C (Kd.int .u8) w A part.length part) (hc0 : part.length ≤ c) (hp : part.length ≤ 48) (h : cPiece kc seq i k part = some r) (hcr : ∀ (l : List Int) (c : Int), l.length ≤ 60 → spec_Crc32.f kc l = some c → 0 ≤ c ∧ c < 4294967296) :
    Calls Try.prog 72 #[.int .i64 seq, .int .i64 i, .int .i64 k, .slice A part.length c] w fun e w' => e = .returned (.agg (r.map (Value.int .u8)).toArray) ∧ r.length = 64 ∧ Below w.heap.size w w' := by
  unfold cPiece pHead at h
  obtain ⟨x4, h0, h⟩ := Option.bind_eq_some_iff.1 h
  obtain ⟨x1, h1, h0⟩ := Option.bind_eq_some_iff.1 h0
  obtain ⟨x2, h2, h0⟩ := Option.bind_eq_some_iff.1 h0
  obtain ⟨x3, h3, h4⟩ := Option.bind_eq_some_iff.1 h0
  obtain ⟨cr, h5, h6⟩ := Option.bind_eq_some_iff.1 h
  have A1_ := Aside0.mk h1
  have A2_ := Aside0.mk h2
  have A3_ := Aside0.mk h3
  have A4_ := Aside0.mk h4
  have A5_ := Aside0.mk h5
  have A6_ := Aside0.mk h6
  have AC_ := Aside0.mk (hcr _ _ (by rw [List.length_take]; omega) h5)
  have HR := Aside0.mk hr0
  have HC := Aside0.mk hc0
  have HP := Aside0.mk hp
  clear h h0 h1 h2 h3 h4 h5 h6 hcr hr0 hc0
  have HB := Aside0.mk (Below.refl w.heap.size w)
  go_enter Try.func72, Try.ntmps72
  go_wp2_with fail
  obtain ⟨zs, hzs⟩ : ∃ zs : List Int, zs = List.replicate 64 0 := ⟨_, rfl⟩
  have hzl : zs.length = 64 := by rw [hzs]; rfl
  change Calls _ _ _ ((w.alloc (.cells ((List.replicate 64 (0 : Int)).map (Value.int .u8)).toArray 84)).alloc (.cells ((List.replicate 64 (0 : Int)).map (Value.int .u8)).toArray 84)) _
  rw [← hzs] at A1_ ⊢
  have K1 := Aside0.mk (blk_alloc (blk_new w (.cells (zs.map (Value.int .u8)).toArray 84)) (.cells (zs.map (Value.int .u8)).toArray 84))
  have K2 := Aside0.mk (blk_new (w.alloc (.cells (zs.map (Value.int .u8)).toArray 84)) (.cells (zs.map (Value.int .u8)).toArray 84))
  simp only [World.size_alloc] at K2
  replace HB := Aside0.mk (below_alloc (below_alloc HB.out (.cells (zs.map (Value.int .u8)).toArray 84)) (.cells (zs.map (Value.int .u8)).toArray 84))
  generalize ((w.alloc (.cells (zs.map (Value.int .u8)).toArray 84)).alloc (.cells (zs.map (Value.int .u8)).toArray 84)) = W0 at *
  have hput := impl_put_arr 5 84 (w.heap.size + 1) 64 zs 0 4 seq x1 W0 K2.out A1_.out
  rw [hzl] at hput
  refine hput.mono ?_
  rintro e w9 ⟨rfl, hlx1, rfl⟩
  replace K1 := Aside0.mk ((setRow_other W0 (w.heap.size + 1) _ (x1.map (Value.int .u8)).toArray (by omega)).trans K1.out)
  replace K2 := Aside0.mk (setRow_heap W0 (w.heap.size + 1) _ (x1.map (Value.int .u8)).toArray 84 (0, 0) K2.out)
  replace HB := Aside0.mk (below_setRow (g := w.heap.size + 1) HB.out (by omega) (x1.map (Value.int .u8)).toArray)
  clear hput
  generalize W0.setRow (w.heap.size + 1) (x1.map (Value.int .u8)).toArray = W1 at *
  go_wp2_with fail
  have hput := impl_put_arr 5 84 (w.heap.size + 1) 64 x1 4 2 i x2 W1 K2.out A2_.out
  rw [hlx1] at hput
  refine hput.mono ?_
  rintro e w9 ⟨rfl, hlx2, rfl⟩
  replace K1 := Aside0.mk ((setRow_other W1 (w.heap.size + 1) _ (x2.map (Value.int .u8)).toArray (by omega)).trans K1.out)
  replace K2 := Aside0.mk (setRow_heap W1 (w.heap.size + 1) _ (x2.map (Value.int .u8)).toArray 84 (0, 0) K2.out)
  replace HB := Aside0.mk (below_setRow (g := w.heap.size + 1) HB.out (by omega) (x2.map (Value.int .u8)).toArray)
  clear hput
  generalize W1.setRow (w.heap.size + 1) (x2.map (Value.int .u8)).toArray = W2 at *
  go_wp2_with fail
  have hput := impl_put_arr 5 84 (w.heap.size + 1) 64 x2 6 2 k x3 W2 K2.out A3_.out
  rw [hlx2] at hput
  refine hput.mono ?_
  rintro e w9 ⟨rfl, hlx3, rfl⟩
  replace K1 := Aside0.mk ((setRow_other W2 (w.heap.size + 1) _ (x3.map (Value.int .u8)).toArray (by omega)).trans K1.out)
  replace K2 := Aside0.mk (setRow_heap W2 (w.heap.size + 1) _ (x3.map (Value.int .u8)).toArray 84 (0, 0) K2.out)
  replace HB := Aside0.mk (below_setRow (g := w.heap.size + 1) HB.out (by omega) (x3.map (Value.int .u8)).toArray)
  clear hput
  generalize W2.setRow (w.heap.size + 1) (x3.map (Value.int .u8)).toArray = W3 at *
  go_wp2_with fail
  have hput := impl_put_arr 5 84 (w.heap.size + 1) 64 x3 8 2 (part.length : Int) x4 W3 K2.out A4_.out
  rw [hlx3] at hput
  refine hput.mono ?_
  rintro e w9 ⟨rfl, hlx4, rfl⟩
  replace K1 := Aside0.mk ((setRow_other W3 (w.heap.size + 1) _ (x4.map (Value.int .u8)).toArray (by omega)).trans K1.out)
  replace K2 := Aside0.mk (setRow_heap W3 (w.heap.size + 1) _ (x4.map (Value.int .u8)).toArray 84 (0, 0) K2.out)
  replace HB := Aside0.mk (below_setRow (g := w.heap.size + 1) HB.out (by omega) (x4.map (Value.int .u8)).toArray)
  clear hput
  generalize W3.setRow (w.heap.size + 1) (x4.map (Value.int .u8)).toArray = W4 at *
  go_wp2_with fail
  have hcp := Go.Lib.run_copy_row_string (P := Try.prog) W4 22 9 3 5 (w.heap.size + 1) 10 54 54 ⟨#[82, 49]⟩ _ 84 Try.underlying22 rfl K2.out (by decide) (by simp [hlx4]; decide)
  rw [r1_row x4 (by omega)] at hcp
  rw [hcp]
  simp only [Result.andThen_ok]
  replace K1 := Aside0.mk ((setRow_other W4 (w.heap.size + 1) _ (((x4.set 10 82).set 11 49).map (Value.int .u8)).toArray (by omega)).trans K1.out)
  replace K2 := Aside0.mk (setRow_heap W4 (w.heap.size + 1) _ (((x4.set 10 82).set 11 49).map (Value.int .u8)).toArray 84 (0, 0) K2.out)
  replace HB := Aside0.mk (below_setRow (g := w.heap.size + 1) HB.out (by omega) (((x4.set 10 82).set 11 49).map (Value.int .u8)).toArray)
  clear hcp
  generalize W4.setRow (w.heap.size + 1) (((x4.set 10 82).set 11 49).map (Value.int .u8)).toArray = W5 at *
  obtain ⟨x5, hx5⟩ : ∃ x5, x5 = (x4.set 10 82).set 11 49 := ⟨_, rfl⟩
  rw [← hx5] at K2 A5_ A6_
  have hx5l : x5.length = 64 := by rw [hx5, List.length_set, List.length_set]; exact hlx4
  have hcp2 : ∃ n, (Builtin.copy_ #[22, 22] 3 #[.slice (some ⟨w.heap.size + 1, 12, none⟩) 48 52, .slice A part.length c]).run Try.prog W5 = .ok n (W5.setRow (w.heap.size + 1) ((cp12 x5 part).map (Value.int .u8)).toArray) := by
    by_cases hn : part = []
    · refine ⟨goInt 0, (Go.run_copy_none W5 22 22 3 5 _ _ 48 52 part.length c Try.underlying22 rfl (by rw [hn]; rfl)).trans ?_⟩
      rw [show cp12 x5 part = x5 by rw [hn, cp12]; simp]
      rw [setRow_self W5 (w.heap.size + 1) _ 84 (0, 0) K2.out]
    · have hpos : 0 < part.length := List.length_pos_iff.2 hn
      obtain ⟨ad, rfl, hcs⟩ := C_cells (Kd.C_below HR.out HB.out) hpos
      have := Go.run_copy_row (P := Try.prog) W5 22 22 3 5 (w.heap.size + 1) 12 48 52 ad part.length c _ 84 (part.map (Value.int .u8)) Try.underlying22 rfl K2.out (by rw [List.length_map]; exact (Nat.min_eq_left HP.out).symm) hcs (by simp [hx5l]; have := HP.out; omega) (by simp [Value.oneCell'])
      refine ⟨goInt (part.map (Value.int .u8)).length, this.trans ?_⟩
      simp [cp12]
  obtain ⟨ncp, hcp2⟩ := hcp2
  clear hx5
  go_wp2_with fail
  have hx6l : (cp12 x5 part).length = 64 := cp12_len x5 part hx5l HP.out
  replace K1 := Aside0.mk ((setRow_other W5 (w.heap.size + 1) _ ((cp12 x5 part).map (Value.int .u8)).toArray (by omega)).trans K1.out)
  replace K2 := Aside0.mk (setRow_heap W5 (w.heap.size + 1) _ ((cp12 x5 part).map (Value.int .u8)).toArray 84 (0, 0) K2.out)
  replace HB := Aside0.mk (below_setRow (g := w.heap.size + 1) HB.out (by omega) ((cp12 x5 part).map (Value.int .u8)).toArray)
  clear hcp2
  generalize W5.setRow (w.heap.size + 1) ((cp12 x5 part).map (Value.int .u8)).toArray = W7 at *
  generalize cp12 x5 part = y at *
  refine (impl_seal_arr kc 5 84 (w.heap.size + 1) y cr r W7 hx6l K2.out A5_.out AC_.out.1 AC_.out.2 A6_.out).mono ?_
  rintro e w9 ⟨rfl, hrl, rfl⟩
  replace K1 := Aside0.mk (blk_drew K1.out)
  replace K2 := Aside0.mk (blk_drew K2.out)
  replace HB := Aside0.mk (below_drew1 HB.out)
  generalize W7.drew = W8 at *
  replace K1 := Aside0.mk ((setRow_other W8 (w.heap.size + 1) _ (r.map (Value.int .u8)).toArray (by omega)).trans K1.out)
  replace K2 := Aside0.mk (setRow_heap W8 (w.heap.size + 1) _ (r.map (Value.int .u8)).toArray 84 (0, 0) K2.out)
  replace HB := Aside0.mk (below_setRow (g := w.heap.size + 1) HB.out (by omega) (r.map (Value.int .u8)).toArray)
  generalize W8.setRow (w.heap.size + 1) (r.map (Value.int .u8)).toArray = W9 at *
  have hrl' : r.length = 64 := hrl.trans hx6l
  have hld := Aside0.mk (load_arr (P := Try.prog) W9 ⟨w.heap.size + 1, 0, none⟩ 84 (r.map (Value.int .u8)) 64 5 (fun j v hj => by rw [add_plain]; exact (blk_cell K2.out j).trans (by simpa using hj)) (by kernel_rfl) (by rw [List.length_map, hrl']; kernel_rfl))
  have hst := Aside0.mk (store_arr (P := Try.prog) W9 w.heap.size 84 84 _ (r.map (Value.int .u8)).toArray K1.out (by rw [List.size_toArray, List.length_map, hrl']; kernel_rfl) (by simp [hzl, hrl']) (by simp [Value.oneCell']))
  go_wp2_with (first | ((with_reducible refine gate_dst (N := 29) rfl ?_); refine Kd.event_run rfl (exec_load _ _ rfl rfl hld.out) ?_) | ((with_reducible refine gate_store (t := 84) (p := 8) rfl ?_); refine store_event rfl rfl rfl (exec_store _ _ _ rfl rfl rfl hst.out) ?_; intro w2 hw2; have hw2 := Aside0.mk hw2))
  obtain rfl := hw2.out
  refine bodyPost_ret (results_cell_row rfl _ _ w.heap.size 84 (r.map (Value.int .u8)).toArray (0, 0) _ rfl (setRow_heap _ _ _ _ _ _ K1.out) Try.underlying84 rfl (by rw [List.size_toArray, List.length_map, hrl']; kernel_rfl)) rfl ⟨rfl, hrl', below_setRow (g := w.heap.size) HB.out (by omega) _⟩
end Go.Proofs.Yteddpdonmhiplaa.PR
