-- Made by this session's programs out of the translation and of its own texts.
import Derived.Test.YteddpdonmhiplaaMFnCrashb
namespace Go.Proofs.Yteddpdonmhiplaa.PR
open Go.RowKit Go.Proofs.YteddpdonmhiplaaW.PrintWords Go.Proofs.YteddpdonmhiplaaW.PrintLast Go.Proofs.YteddpdonmhiplaaW.PrintMore
attribute [local go_sem] max2_int min2_int max_two min_two max_three min_three max_four min_four   -- for this text's walks alone
set_option linter.unusedVariables false
set_option linter.unusedSimpArgs false

/-! ### laws_eqPendS: function 65 -/
def laws_eqPendS.l0 : Nat → List (S79) → List (S79) → Int → Option (Bool)
 | 0, _, _, _ => none
 | k + 1, x0, x1, x5 => if x5 < (x0.length : Int) then (if 0 ≤ x5 then (if x5 < (x1.length : Int) then ((laws_eqPend.f k ((rd_T79 x0 x5).f0) ((rd_T79 x0 x5).f1) ((rd_T79 x1 x5).f0) ((rd_T79 x1 x5).f1)).bind fun t311 => (if t311 = true then (laws_eqPendS.l0 k x0 x1 (wrap64 (x5 + 1))) else (some false))) else (none)) else (none)) else (some true)
def laws_eqPendS.f (k : Nat) (l0 : List (S79)) (l1 : List (S79)) : Option (Bool) := if (l0.length : Int) = (l1.length : Int) then (laws_eqPendS.l0 k l0 l1 0) else (some false)
def laws_eqPendS.T6 : Bool × List (List Nat × List Nat) := (true, [([], []), ([], []), ([0, 1], [0, 1]), ([2], [2]), ([], []), ([], []), ([4, 5], [4, 5]), ([6], [6]), ([3, 7], [3, 7]), ([8], [8])])
def laws_eqPendS.B6 : List Nat := [0, 0, 3, 7, 0, 0, 48, 112, 255, 511]

/-! ### laws_eqDisk: function 24 -/
def laws_eqDisk.f (k : Nat) (l0_0 : List Int) (l0_1 : List (S79)) (a0_2 : Int) (a0_3 : Bool) (l1_0 : List Int) (l1_1 : List (S79)) (a1_2 : Int) (a1_3 : Bool) : Option (Bool) := (laws_eqByteS.f k l0_0 l1_0).bind fun t314 => (if t314 = true then ((laws_eqPendS.f k l0_1 l1_1).bind fun t315 => (if t315 = true then (if a0_2 = a1_2 then (if (a0_3 != a1_3) = true then (some false) else (some true)) else (some false)) else (some false))) else (some false))

/-! ### L_eqByteS: a text by hand -/

/-! ### L_toByteS: a text by hand -/

/-! ### L_evDisk: a text by hand -/
def cvPend (l : List S127) : List S79 := l.map fun x => ⟨x.f0, x.f1⟩
def okPendS (l : List S79) : Prop := l.length ≤ 1048576 ∧ ∀ x ∈ l, x.f1.length ≤ 1048576

/-! ### impl_goodNumber: function 70 -/
def impl_goodNumber.f (a0 : Int) : Option (Bool) := if a0 ≥ 1 then (some (decide (a0 ≤ 2000000000))) else (some false)
set_option maxHeartbeats 8000000 in
set_option maxRecDepth 100000 in
theorem impl_goodNumber.calls (a0 : Int) (r : Bool) (w : World) (h : impl_goodNumber.f a0 = some r) :
  Calls Try.prog 70 #[.int .i64 a0] w fun e w' => e = .returned (.bool r) ∧ Drawn0 w w' := by
 have H : (if a0 ≥ 1 then (some (decide (a0 ≤ 2000000000))) else (some false)) = some r := h
 clear h
 by_cases c2 : a0 ≥ 1
 ·rw [if_pos c2] at H
  have c2b0 : decide (1 ≤ a0) = true := decide_eq_true c2
  clear c2
  obtain rfl := Option.some.inj H
  go_enter Try.func70, Try.ntmps70
  go_wp2
  go_ret
  exact ⟨by first | rfl | (simp; done) | (simp [*]; done), by repeat (first | exact Drawn0.refl _ | apply Drawn0.step)⟩
 ·rw [if_neg c2] at H
  have c2b0 : decide (1 ≤ a0) = false := decide_eq_false c2
  clear c2
  obtain rfl := Option.some.inj H
  go_enter Try.func70, Try.ntmps70
  go_wp2
  go_ret
  exact ⟨by first | rfl | (simp; done) | (simp [*]; done), by repeat (first | exact Drawn0.refl _ | apply Drawn0.step)⟩

/-- THE ONE PURE STATEMENT of impl_goodNumber: yours. -/
def impl_goodNumber.Pure : Prop := ∀ (a0 : Int), (Lit.int .i64 a0).wf = true → impl_goodNumber.f a0 = some true
theorem impl_goodNumber.walk (P : impl_goodNumber.Pure) (a0 : Int) (w : World) (w0 : (Lit.int .i64 a0).wf = true) :
  Calls Try.prog 70 #[.int .i64 a0] w fun e w' => e = .returned (.bool true) ∧ Below w.heap.size w w' := by
 have h := P a0 w0
 refine (impl_goodNumber.calls a0 true w h).mono ?_
 rintro e w' ⟨rfl, hd⟩
 exact ⟨rfl, hd.below⟩

/-! ### L_validDisk: a text by hand -/
def pendOk (n : Nat) (p : S79) : Bool := decide (0 ≤ p.f0) && decide (p.f0 < (n / 64 : Nat)) && decide (p.f1.length = 64)
def vD (l0 : List Int) (l1 : List S79) (a2 : Int) : Bool :=
 decide (l0.length % 64 = 0) && decide (1024 ≤ l0.length) && decide (l0.length ≤ 65599) && decide (l1.length ≤ 2000) && decide (-1 ≤ a2) && decide (a2 ≤ 1000000) && l1.all (pendOk l0.length)
theorem drop_all {α : Type} (p : α → Bool) (l : List α) (i : Nat) (h : i < l.length) : (l.drop i).all p = (p l[i] && (l.drop (i + 1)).all p) := by
 rw [List.drop_eq_getElem_cons h, List.all_cons]
theorem sectors_at (l0 : List Int) (hL : l0.length ≤ 1048576) : wrap64 ((l0.length : Int) / 64) = ((l0.length / 64 : Nat) : Int) := by unfold wrap64; omega
theorem specValid_loop (l0 : List Int) (l1 : List S79) (a2 : Int) (a3 : Bool) (hL : l1.length ≤ 1048576) : ∀ (d i : Nat), i + d = l1.length →
   Ev (fun k => spec_ValidDisk.l0 k ((l0.length / 64 : Nat) : Int) (i : Int) l0 l1 a2 a3) ((l1.drop i).all (pendOk l0.length))
 | 0, i, hd => by
   rw [List.drop_of_length_le (by omega), List.all_nil]
   exact Ev.step (fun k => by simp only [spec_ValidDisk.l0]; rw [if_neg (by omega)]) (Ev.now _)
 | d + 1, i, hd => by
   have hi : i < l1.length := by omega
   have er : rd_T79 l1 (i : Int) = l1[i] := by unfold rd_T79; rw [Int.toNat_natCast, List.getD_eq_getElem?_getD, List.getElem?_eq_getElem hi]; rfl
   rw [drop_all _ _ _ hi]
   have ih := specValid_loop l0 l1 a2 a3 hL d (i + 1) (by omega)
   have ew : wrap64 ((i : Int) + 1) = ((i + 1 : Nat) : Int) := by unfold wrap64; omega
   by_cases c1 : l1[i].f0 < 0
   ·rw [show pendOk l0.length l1[i] = false by unfold pendOk; simp <;> omega, Bool.false_and]
    exact Ev.step (fun k => by simp only [spec_ValidDisk.l0]; rw [if_pos (by omega), if_pos (by omega), er, if_pos c1]) (Ev.now _)
   by_cases c2 : l1[i].f0 ≥ ((l0.length / 64 : Nat) : Int)
   ·rw [show pendOk l0.length l1[i] = false by unfold pendOk; simp <;> omega, Bool.false_and]
    exact Ev.step (fun k => by simp only [spec_ValidDisk.l0]; rw [if_pos (by omega), if_pos (by omega), er, if_neg c1, if_pos c2]) (Ev.now _)
   by_cases c3 : (l1[i].f1.length : Int) = 64
   ·rw [show pendOk l0.length l1[i] = true by unfold pendOk; simp <;> omega, Bool.true_and]
    exact Ev.step (fun k => by simp only [spec_ValidDisk.l0]; rw [if_pos (by omega), if_pos (by omega), er, if_neg c1, if_neg c2, if_pos c3, ew]) ih
   ·rw [show pendOk l0.length l1[i] = false by unfold pendOk; simp <;> omega, Bool.false_and]
    exact Ev.step (fun k => by simp only [spec_ValidDisk.l0]; rw [if_pos (by omega), if_pos (by omega), er, if_neg c1, if_neg c2, if_neg c3]) (Ev.now _)
theorem specValid_ev (l0 : List Int) (l1 : List S79) (a2 : Int) (a3 : Bool) (h0 : l0.length ≤ 1048576) (hL : l1.length ≤ 1048576) : Ev (fun k => spec_ValidDisk.f k l0 l1 a2 a3) (vD l0 l1 a2) := by
 have hl := specValid_loop l0 l1 a2 a3 hL l1.length 0 (by omega)
 rw [List.drop_zero] at hl
 have ht : Ev (fun k => spec_ValidDisk.j0 k ((l0.length / 64 : Nat) : Int) true l0 l1 a2 a3) false := Ev.step (fun k => by simp only [spec_ValidDisk.j0]; rw [if_true]) (Ev.now _)
 refine Ev.congr (fun k => by unfold spec_ValidDisk.f spec_l1Sectors.f; rw [sectors_at l0 h0, Option.bind_some]) ?_
 by_cases c1 : ((l0.length : Int) % 64) = 0
 ·by_cases c2 : ((l0.length / 64 : Nat) : Int) < 16
  ·rw [show vD l0 l1 a2 = false by unfold vD; simp <;> omega]
   exact Ev.congr (fun k => by rw [if_pos c1, if_pos c2]) ht
  by_cases c3 : ((l0.length / 64 : Nat) : Int) > 1024
  ·rw [show vD l0 l1 a2 = false by unfold vD; simp <;> omega]
   exact Ev.congr (fun k => by rw [if_pos c1, if_neg c2, if_pos c3]) ht
  by_cases c4 : (l1.length : Int) > 2000
  ·rw [show vD l0 l1 a2 = false by unfold vD; simp <;> omega]
   exact Ev.congr (fun k => by rw [if_pos c1, if_neg c2, if_neg c3, if_pos c4]) ht
  by_cases c5 : a2 < -1
  ·rw [show vD l0 l1 a2 = false by unfold vD; simp <;> omega]
   exact Ev.congr (fun k => by rw [if_pos c1, if_neg c2, if_neg c3, if_neg c4, if_pos c5]) ht
  by_cases c6 : a2 > 1000000
  ·rw [show vD l0 l1 a2 = false by unfold vD; simp <;> omega]
   exact Ev.congr (fun k => by rw [if_pos c1, if_neg c2, if_neg c3, if_neg c4, if_neg c5, decide_eq_true c6]) ht
  ·rw [show vD l0 l1 a2 = l1.all (pendOk l0.length) by unfold vD; rw [decide_eq_true (by omega), decide_eq_true (by omega), decide_eq_true (by omega), decide_eq_true (by omega), decide_eq_true (by omega), decide_eq_true (by omega)]; simp]
   refine Ev.congr (fun k => by rw [if_pos c1, if_neg c2, if_neg c3, if_neg c4, if_neg c5, decide_eq_false c6]) ?_
   exact Ev.step (fun k => by simp only [spec_ValidDisk.j0]; rw [if_neg (by decide)]; rfl) hl
 ·rw [show vD l0 l1 a2 = false by unfold vD; simp <;> omega]
  exact Ev.congr (fun k => by rw [if_neg c1]) ht
theorem implValid_loop (l0 : List Int) (l1 : List S79) (a2 : Int) (a3 : Bool) (h0 : l0.length ≤ 1048576) (hL : l1.length ≤ 1048576) : ∀ (d i : Nat), i + d = l1.length →
   Ev (fun k => impl_ValidDisk.l0 k l1 (l1.length : Int) (i : Int) l0 l1 a2 a3) ((l1.drop i).all (pendOk l0.length))
 | 0, i, hd => by
   rw [List.drop_of_length_le (by omega), List.all_nil]
   exact Ev.step (fun k => by simp only [impl_ValidDisk.l0]; rw [if_neg (by omega)]) (Ev.now _)
 | d + 1, i, hd => by
   have hi : i < l1.length := by omega
   have er : rd_T79 l1 (i : Int) = l1[i] := by unfold rd_T79; rw [Int.toNat_natCast, List.getD_eq_getElem?_getD, List.getElem?_eq_getElem hi]; rfl
   rw [drop_all _ _ _ hi]
   have ih := implValid_loop l0 l1 a2 a3 h0 hL d (i + 1) (by omega)
   have ew : wrap64 ((i : Int) + 1) = ((i + 1 : Nat) : Int) := by unfold wrap64; omega
   have hh : impl_Disk_has.f l0 l1 a2 a3 l1[i].f0 = some (decide (0 ≤ l1[i].f0) && decide (l1[i].f0 < ((l0.length / 64 : Nat) : Int))) := by
    unfold impl_Disk_has.f impl_Disk_sectors.f
    rw [sectors_at l0 h0]
    by_cases c : l1[i].f0 ≥ 0
    ·rw [if_pos c, decide_eq_true (show 0 ≤ l1[i].f0 from c)]; simp
    ·rw [if_neg c, decide_eq_false (show ¬ 0 ≤ l1[i].f0 from c)]; simp
   by_cases c1 : (decide (0 ≤ l1[i].f0) && decide (l1[i].f0 < ((l0.length / 64 : Nat) : Int))) = true
   ·by_cases c3 : (l1[i].f1.length : Int) = 64
    ·rw [show pendOk l0.length l1[i] = true by unfold pendOk; rw [c1, decide_eq_true (by omega)]; rfl, Bool.true_and]
     exact Ev.step (fun k => by simp only [impl_ValidDisk.l0]; rw [if_pos (by omega), if_pos (by omega), if_pos (by omega), er, hh, c1]; simp only [Option.bind_some, if_true]; rw [if_pos c3, ew]) ih
    ·rw [show pendOk l0.length l1[i] = false by unfold pendOk; rw [decide_eq_false (show ¬ l1[i].f1.length = 64 by omega)]; simp, Bool.false_and]
     exact Ev.step (fun k => by simp only [impl_ValidDisk.l0]; rw [if_pos (by omega), if_pos (by omega), if_pos (by omega), er, hh, c1]; simp only [Option.bind_some, if_true]; rw [if_neg c3]) (Ev.now _)
   ·have c1' := Bool.eq_false_iff.2 c1
    rw [show pendOk l0.length l1[i] = false by unfold pendOk; rw [c1']; rfl, Bool.false_and]
    exact Ev.step (fun k => by simp only [impl_ValidDisk.l0]; rw [if_pos (by omega), if_pos (by omega), if_pos (by omega), er, hh, c1']; simp) (Ev.now _)
theorem implValid_ev (l0 : List Int) (l1 : List S79) (a2 : Int) (a3 : Bool) (h0 : l0.length ≤ 1048576) (hL : l1.length ≤ 1048576) : Ev (fun k => impl_ValidDisk.f k l0 l1 a2 a3) (vD l0 l1 a2) := by
 have hl := implValid_loop l0 l1 a2 a3 h0 hL l1.length 0 (by omega)
 rw [List.drop_zero] at hl
 have ht0 : Ev (fun k => impl_ValidDisk.j0 k true l0 l1 a2 a3) false := Ev.step (fun k => by simp only [impl_ValidDisk.j0]; rw [if_true]) (Ev.now _)
 have ht1 : Ev (fun k => impl_ValidDisk.j1 k true l0 l1 a2 a3) false := Ev.step (fun k => by simp only [impl_ValidDisk.j1]; rw [if_true]) (Ev.now _)
 refine Ev.congr (fun k => by unfold impl_ValidDisk.f impl_Disk_sectors.f; rw [sectors_at l0 h0, Option.bind_some, Option.bind_some]) ?_
 by_cases c1 : ((l0.length : Int) % 64) = 0
 ·by_cases c2 : ((l0.length / 64 : Nat) : Int) < 16
  ·rw [show vD l0 l1 a2 = false by unfold vD; simp <;> omega]
   exact Ev.congr (fun k => by rw [if_pos c1, if_pos c2]) ht0
  by_cases c3 : ((l0.length / 64 : Nat) : Int) > 1024
  ·rw [show vD l0 l1 a2 = false by unfold vD; simp <;> omega]
   exact Ev.congr (fun k => by rw [if_pos c1, if_neg c2, decide_eq_true c3]) ht0
  refine Ev.congr (fun k => by rw [if_pos c1, if_neg c2, decide_eq_false c3]) ?_
  by_cases c4 : (l1.length : Int) > 2000
  ·rw [show vD l0 l1 a2 = false by unfold vD; simp <;> omega]
   exact Ev.step (fun k => by simp only [impl_ValidDisk.j0]; rw [if_neg (by decide), if_pos c4]) ht1
  by_cases c5 : a2 < -1
  ·rw [show vD l0 l1 a2 = false by unfold vD; simp <;> omega]
   exact Ev.step (fun k => by simp only [impl_ValidDisk.j0]; rw [if_neg (by decide), if_neg c4, if_pos c5]) ht1
  by_cases c6 : a2 > 1000000
  ·rw [show vD l0 l1 a2 = false by unfold vD; simp <;> omega]
   exact Ev.step (fun k => by simp only [impl_ValidDisk.j0]; rw [if_neg (by decide), if_neg c4, if_neg c5, decide_eq_true c6]) ht1
  ·rw [show vD l0 l1 a2 = l1.all (pendOk l0.length) by unfold vD; rw [decide_eq_true (by omega), decide_eq_true (by omega), decide_eq_true (by omega), decide_eq_true (by omega), decide_eq_true (by omega), decide_eq_true (by omega)]; simp]
   refine Ev.step (fun k => by simp only [impl_ValidDisk.j0]; rw [if_neg (by decide), if_neg c4, if_neg c5, decide_eq_false c6]) ?_
   exact Ev.step (fun k => by simp only [impl_ValidDisk.j1]; rw [if_neg (by decide)]; rfl) hl
 ·rw [show vD l0 l1 a2 = false by unfold vD; simp <;> omega]
  exact Ev.congr (fun k => by rw [if_neg c1]) ht0

/-! ### L_vD2: a text by hand -/
def inD (l0 : List Int) (s : Int) : Bool := decide (0 ≤ s) && decide (s < ((l0.length / 64 : Nat) : Int))
theorem has_eq (l0 : List Int) (l1 : List S79) (a2 : Int) (a3 : Bool) (s : Int) (h0 : l0.length ≤ 1048576) : impl_Disk_has.f l0 l1 a2 a3 s = some (inD l0 s) := by
 unfold impl_Disk_has.f impl_Disk_sectors.f inD
 rw [sectors_at l0 h0]
 by_cases c : s ≥ 0
 ·rw [if_pos c, Option.bind_some, decide_eq_true (show 0 ≤ s from c), Bool.true_and]
 ·rw [if_neg c, decide_eq_false (show ¬ 0 ≤ s from c), Bool.false_and]
theorem vD_facts {l0 : List Int} {l1 : List S79} {a2 : Int} (h : vD l0 l1 a2 = true) : l0.length % 64 = 0 ∧ 1024 ≤ l0.length ∧ l0.length ≤ 65599 ∧ l1.length ≤ 2000 ∧ -1 ≤ a2 ∧ a2 ≤ 1000000 ∧ ∀ x ∈ l1, 0 ≤ x.f0 ∧ x.f0 < ((l0.length / 64 : Nat) : Int) ∧ x.f1.length = 64 := by
 unfold vD at h
 simp only [Bool.and_eq_true, decide_eq_true_eq, List.all_eq_true] at h
 obtain ⟨⟨⟨⟨⟨⟨h1, h2⟩, h3⟩, h4⟩, h5⟩, h6⟩, h7⟩ := h
 refine ⟨h1, h2, h3, h4, h5, h6, fun x hx => ?_⟩
 have := h7 x hx
 unfold pendOk at this
 simp only [Bool.and_eq_true, decide_eq_true_eq] at this
 exact ⟨this.1.1, this.1.2, this.2⟩

/-! ### L_specRead: a text by hand -/
theorem specRead_loop (l0 : List Int) (l1 : List S79) (a2 : Int) (a3 : Bool) (s : Int) (h0 : 0 ≤ s) (h1 : s * 64 + 64 ≤ l0.length) (h2 : l0.length ≤ 65599) (h3 : l1.length ≤ 2000) (h4 : ∀ x ∈ l1, x.f1.length = 64) :
   ∀ d : Nat, d ≤ l1.length → Ev (fun k => spec_DiskRead.l0 k s ((d : Int) - 1) l0 l1 a2 a3) (rdAll s (sec l0 s) (l1.take d)) := by
 intro d
 induction d with
 | zero =>
   intro _
   have hs := sec_len l0 s h0 h1 h2
   have e1 : wrap64 (s * 64) = s * 64 := by unfold wrap64; omega
   have e2 : wrap64 (wrap64 (s + 1) * 64) = (s + 1) * 64 := by unfold wrap64; omega
   refine Ev.step (fun K => by
    simp only [spec_DiskRead.l0]
    rw [if_neg (by omega), Option.bind_some, if_pos (by omega), if_pos (by omega), if_pos (by omega)]
    refine (if_pos ?_).trans rfl
    unfold sec at hs
    rw [hs]
    decide) (Ev.now _)
 | succ d ih =>
   intro hd
   have ih' := ih (by omega)
   rw [rdAll_take _ _ _ _ (by omega)]
   have hx : (rd_T79 l1 (d : Int)).f1.length = 64 := h4 _ (by unfold rd_T79; rw [Int.toNat_natCast, List.getD_eq_getElem?_getD, List.getElem?_eq_getElem (by omega)]; exact List.getElem_mem _)
   have e3 : (((d + 1 : Nat) : Int) - 1) = (d : Int) := by omega
   rw [e3]
   by_cases c : (rd_T79 l1 (d : Int)).f0 = s
   ·rw [if_pos c]
    exact Ev.step (fun K => by
     simp only [spec_DiskRead.l0]
     rw [if_pos (by omega), if_pos (by omega), if_pos (by omega), if_pos c, Option.bind_some, if_pos (by rw [hx]; decide)]; rfl) (Ev.now _)
   ·rw [if_neg c]
    exact Ev.step (fun K => by
     simp only [spec_DiskRead.l0]
     rw [if_pos (by omega), if_pos (by omega), if_pos (by omega), if_neg c, show wrap64 ((d : Int) - 1) = (d : Int) - 1 by unfold wrap64; omega]) ih'
theorem specRead_ev (l0 : List Int) (l1 : List S79) (a2 : Int) (a3 : Bool) (s : Int) (h0 : l0.length ≤ 1048576) (hL : l1.length ≤ 1048576) : Ev (fun k => spec_DiskRead.f k l0 l1 a2 a3 s) (if (vD l0 l1 a2 && inD l0 s) = true then dRd l0 l1 s else []) := by
 have hj : Ev (fun k => spec_DiskRead.j0 k s true l0 l1 a2 a3) ([] : List Int) := Ev.step (fun K => by simp only [spec_DiskRead.j0]; rw [if_true]) (Ev.now _)
 unfold spec_DiskRead.f
 refine Ev.bind (specValid_ev l0 l1 a2 a3 h0 hL) ?_
 by_cases cv : vD l0 l1 a2 = true
 case neg =>
  have cv' : vD l0 l1 a2 = false := by simpa using cv
  rw [cv', Bool.false_and, if_neg (by decide)]
  exact Ev.congr (fun K => by rw [if_neg (by decide)]) hj
 rw [cv, Bool.true_and]
 refine Ev.congr (fun K => by rw [if_pos rfl]) ?_
 obtain ⟨f1, f2, f3, f4, f5, f6, f7⟩ := vD_facts cv
 by_cases c : s < 0
 ·rw [show inD l0 s = false by unfold inD; simp <;> omega, if_neg (by decide)]
  exact Ev.congr (fun K => by rw [if_pos c]) hj
 have hsec : spec_l1Sectors.f l0 l1 a2 a3 = some ((l0.length / 64 : Nat) : Int) := by unfold spec_l1Sectors.f; rw [sectors_at l0 h0]
 refine Ev.congr (fun K => by rw [if_neg c, hsec, Option.bind_some]) ?_
 by_cases c2 : s ≥ ((l0.length / 64 : Nat) : Int)
 ·rw [show inD l0 s = false by unfold inD; simp <;> omega, if_neg (by decide)]
  exact Ev.congr (fun K => by rw [decide_eq_true c2]) hj
 ·rw [show inD l0 s = true by unfold inD; simp <;> omega, if_pos rfl]
  have h := specRead_loop l0 l1 a2 a3 s (by omega) (by omega) f3 f4 (fun x hx => (f7 x hx).2.2) l1.length (Nat.le_refl _)
  rw [List.take_length] at h
  refine Ev.congr (fun K => by rw [decide_eq_false c2]) (Ev.step (fun K => by simp only [spec_DiskRead.j0]; rw [if_neg (by decide), show wrap64 ((l1.length : Int) - 1) = (l1.length : Int) - 1 by unfold wrap64; omega]) h)

/-! ### L_put4: a text by hand -/
def put4 (x : Int) : List Int := [x % 256, x / 256 % 256, x / 256 / 256 % 256, x / 256 / 256 / 256 % 256]
theorem crc_bd (k : Nat) (l : List Int) (c : Int) (hl : l.length ≤ 9223372036854775807) (h : spec_Crc32.f k l = some c) : 0 ≤ c ∧ c < 4294967296 := by
 rw [(crcSpec l c hl k).1 _ 0 h (by omega) rfl]
 have h0 := bits_lo_u32 .xor (crcT l l.length) 4294967295
 have h1 := bits_hi_u32 .xor (crcT l l.length) 4294967295
 exact ⟨h0, by omega⟩

/-! ### L_putEv: a text by hand -/
theorem crc_l1_ev (l : List Int) (i : Nat) (hi : i < 4611686018427387904) (next : ∀ x, ∃ r, Ev (fun k => spec_Crc32.l0 k l x ((i + 1 : Nat) : Int)) r) : ∀ (m j : Nat), j + m = 8 → ∀ x, ∃ r, Ev (fun k => spec_Crc32.l1 k l x i j) r
 | 0, j, hj, x => by
   obtain ⟨r, hr⟩ := next x
   exact ⟨r, Ev.step (fun K => by rw [spec_Crc32.l1, if_neg (by omega), show wrap64 ((i : Int) + 1) = ((i + 1 : Nat) : Int) from by unfold wrap64; omega]) hr⟩
 | m + 1, j, hj, x => by
   have ew : wrap64 ((j : Int) + 1) = ((j + 1 : Nat) : Int) := by unfold wrap64; omega
   by_cases c : Int.tmod x 2 = 1
   ·obtain ⟨r, hr⟩ := crc_l1_ev l i hi next m (j + 1) (by omega) (Go.bits .xor .u32 ((Int.tdiv x 2) % 4294967296) 3988292384)
    exact ⟨r, Ev.step (fun K => by rw [spec_Crc32.l1, if_pos (by omega), if_pos c, ew]) hr⟩
   ·obtain ⟨r, hr⟩ := crc_l1_ev l i hi next m (j + 1) (by omega) ((Int.tdiv x 2) % 4294967296)
    exact ⟨r, Ev.step (fun K => by rw [spec_Crc32.l1, if_pos (by omega), if_neg c, ew]) hr⟩
theorem crc_l0_ev (l : List Int) (hl : l.length < 4611686018427387904) : ∀ (m i : Nat), i + m = l.length → ∀ x, ∃ r, Ev (fun k => spec_Crc32.l0 k l x i) r
 | 0, i, hi, x => ⟨_, Ev.step (f := fun _ => some (Go.bits .xor .u32 x 4294967295)) (fun K => by rw [spec_Crc32.l0, if_neg (by omega)]) (Ev.now _)⟩
 | m + 1, i, hi, x => by
   obtain ⟨r, hr⟩ := crc_l1_ev l i (by omega) (fun y => crc_l0_ev l hl m (i + 1) (by omega) y) 8 0 rfl (Go.bits .xor .u32 x ((rd l i) % 4294967296))
   exact ⟨r, Ev.step (fun K => by rw [spec_Crc32.l0, if_pos (by omega), if_pos (by omega)]; rfl) hr⟩
theorem crc_ev (l : List Int) (hl : l.length < 4611686018427387904) : ∃ r, Ev (fun k => spec_Crc32.f k l) r := crc_l0_ev l hl l.length 0 (by omega) 4294967295

/-! ### impl_get: function 71 -/
def impl_get.l0 : Nat → List Int → Int → Int → Int → Option (Int)
 | 0, _, _, _, _ => none
 | k + 1, x0, x1, x7, x8 => if x8 ≥ 0 then (if 0 ≤ (wrap64 (x1 + x8)) then (if (wrap64 (x1 + x8)) < (x0.length : Int) then (impl_get.l0 k x0 x1 (Go.bits .or .i64 (wrap64 (x7 * 256)) (wrap64 (rd x0 (wrap64 (x1 + x8))))) (wrap64 (x8 - 1))) else (none)) else (none)) else (some x7)
def impl_get.f (k : Nat) (l0 : List Int) (a1 : Int) (a2 : Int) : Option (Int) := impl_get.l0 k l0 a1 0 (wrap64 (a2 - 1))

/-! ### impl_Disk_read2: a text by hand -/
set_option maxHeartbeats 4000000 in
set_option maxRecDepth 100000 in
theorem impl_Disk_read.calls (A0 : Option Addr) (c0 : Nat) (l0 : List Int) (A1 : Option Addr) (c1 : Nat) (l1 : List S79) (a2 : Int) (a3 : Bool) (s : Int) (w : World) (hr0 : Kd.C (Kd.int .u8) w A0 l0.length l0) (hc0 : l0.length ≤ c0) (hr1 : Kd.C k79 w A1 l1.length l1) (hc1 : l1.length ≤ c1)
  (h0 : 0 ≤ s) (h1 : s * 64 + 64 ≤ l0.length) (h2 : l0.length ≤ 65599) (h3 : l1.length ≤ 2000) (h4 : ∀ x ∈ l1, x.f1.length = 64) :
  Calls Try.prog 55 #[.agg #[.slice A0 l0.length c0, .slice A1 l1.length c1, .int .i64 a2, .bool a3], .int .i64 s] w fun e w' => e = .returned (.agg ((dRd l0 l1 s).map (Value.int .u8)).toArray) ∧ Below w.heap.size w w' := by
 have HR0 := Aside0.mk hr0
 have HC0 := Aside0.mk hc0
 have HR1 := Aside0.mk hr1
 have HC1 := Aside0.mk hc1
 have HP := Aside0.mk h4
 clear hr0 hc0 hr1 hc1 h4
 have hu25 := Try.underlying25
 have hu79 := Try.underlying79
 have e1 : wrap64 (s * 64) = s * 64 := by unfold wrap64; omega
 have e2 : wrap64 (s + 1) = s + 1 := by unfold wrap64; omega
 have e3 : wrap64 ((s + 1) * 64) = (s + 1) * 64 := by unfold wrap64; omega
 have HB := Aside0.mk (Below.refl w.heap.size w)
 have e4 : ¬ c0 = (s * 64).toNat := by have := HC0.out; omega
 have e5 : (s + 1) * 64 ≤ (c0 : Int) := by have := HC0.out; omega
 have e6 : 0 ≤ (s + 1) * 64 := by omega
 have e7 : 0 ≤ s * 64 := by omega
 have e8 : s * 64 ≤ (s + 1) * 64 := by omega
 have e9 : ((s + 1) * 64).toNat - (s * 64).toNat = 64 := by omega
 have e10 : (s * 64 ≤ (((s + 1) * 64).toNat : Int)) := by omega
 go_enter Try.func55, Try.ntmps55
 go_wp2_with fail
 clear e1 e2 e3 e5 e6 e7 e8 e10
 go_loopg [5, 19] l1.length (fun kq v5 v19 w' => ∃ (i cb : Nat) (B : Option Addr), v19 = .int .i64 i ∧ v5 = .slice B 64 cb ∧ Aside0 (64 ≤ cb ∧ i ≤ l1.length ∧ kq = l1.length - i) ∧ Aside0 (Kd.C (Kd.int .u8) w' B 64 (rdAll s (sec l0 s) (l1.take i))) ∧ Aside0 (∃ Z : Array Value, Z.size = 64 ∧ w'.heap[w.heap.size + 1]? = some (.cells Z 84 (0, 0))) ∧ Aside0 (Below w.heap.size w w'))
 case atStart =>
  have hm := Kd.C_mid (lo := (s * 64).toNat) (hi := ((s + 1) * 64).toNat) HR0.out (by omega) (by omega) HC0.out
  rw [if_neg e4] at hm
  refine ⟨0, _, _, rfl, rfl, ⟨by have := HC0.out; omega, by omega, rfl⟩, ⟨?_⟩, ⟨⟨_, by rfl, blk_new2 w _ _⟩⟩, ⟨below_alloc (below_alloc HB.out _) _⟩⟩
  refine Kd.C_alloc (Kd.C_alloc ?_ _) _
  have hl : ((l0.take ((s + 1) * 64).toNat).drop (s * 64).toNat).length = 64 := by simp; omega
  rw [hl] at hm
  show Kd.C _ _ _ _ (sec l0 s)
  unfold sec
  rw [show wrap64 (s * 64) = s * 64 by unfold wrap64; omega, show wrap64 (s + 1) = s + 1 by unfold wrap64; omega, show wrap64 ((s + 1) * 64) = (s + 1) * 64 by unfold wrap64; omega]
  rw [show (s * 64).toNat * (Kd.int .u8).sz = (s * 64).toNat from Nat.mul_one _] at hm
  exact hm
 case round =>
  obtain ⟨i, cb, B, rfl, rfl, HI, HC, HZ, HB⟩ := hrel
  by_cases ci : (i : Int) < (l1.length : Int)
  · obtain ⟨ad, A1', c1', e_, hx0, hx1, hl, hC⟩ := at_T79 (Kd.C_below HR1.out HB.out) (i : Int) (by omega) (by omega)
    cases e_
    rw [Int.toNat_natCast] at hx0 hx1
    have hC := Aside0.mk hC
    have hl := Aside0.mk hl
    have hT := rdAll_take s (sec l0 s) l1 i (by omega)
    have hT := Aside0.mk hT
    have hF : (rd_T79 l1 (i : Int)).f1.length = 64 := HP.out _ (by unfold rd_T79; rw [Int.toNat_natCast, List.getD_eq_getElem?_getD, List.getElem?_eq_getElem (by omega)]; exact List.getElem_mem _)
    rw [hF] at hx1
    have hF := Aside0.mk hF
    generalize hp : rd_T79 l1 (i : Int) = p at *
    clear hp
    by_cases cf : p.f0 = s
    ·have cb : (p.f0 == s) = true := beq_iff_eq.2 cf
     have cf := Aside0.mk cf
     go_wp2_with fail
     go_roundg (l1.length - (i + 1))
     case measure => have := HI.out; omega
     case rel => exact ⟨i + 1, c1', A1', by first | rfl | simp, rfl, ⟨by have := hl.out; have := hF.out; omega, by omega, rfl⟩, ⟨by rw [hT.out, if_pos cf.out]; have h := hC.out; rw [hF.out] at h; exact Kd.C_alloc h _⟩, ⟨by obtain ⟨Z, h1, h2⟩ := HZ.out; exact ⟨Z, h1, blk_alloc h2 _⟩⟩, ⟨below_alloc HB.out _⟩⟩
    ·have cb : (p.f0 == s) = false := beq_eq_false_iff_ne.2 cf
     have cf := Aside0.mk cf
     go_wp2_with fail
     go_roundg (l1.length - (i + 1))
     case measure => have := HI.out; omega
     case rel => exact ⟨i + 1, _, B, by first | rfl | simp, rfl, ⟨by have := HI.out; omega, by omega, rfl⟩, ⟨by rw [hT.out, if_neg cf.out]; exact Kd.C_alloc HC.out _⟩, ⟨by obtain ⟨Z, h1, h2⟩ := HZ.out; exact ⟨Z, h1, blk_alloc h2 _⟩⟩, ⟨below_alloc HB.out _⟩⟩
  · obtain ⟨ad, rfl, hcs⟩ := C_cells HC.out (by omega)
    have hcs := Aside0.mk hcs
    have har : ∀ W, (Instr.arrayAt 84 (.slice (some ad) 64 cb)).run Try.prog W = .ok (.pointer (some ad)) W := fun W => arr_at _ 5 64 _ _ _ (by kernel_rfl) (by omega) W
    have hN : (rdAll s (sec l0 s) (l1.take i)).length = 64 := HC.out.1
    have hld : (Instr.loadAt 84 (.pointer (some ad))).run Try.prog wr = .ok (.agg ((rdAll s (sec l0 s) (l1.take i)).map (Value.int .u8)).toArray) wr := load_arr wr ad _ _ 64 5 hcs.out (by kernel_rfl) (by rw [List.length_map, hN]; kernel_rfl)
    obtain ⟨Z, hz, hZ⟩ := HZ.out
    have hst := store_arr (P := Try.prog) wr (w.heap.size + 1) 84 84 Z ((rdAll s (sec l0 s) (l1.take i)).map (Value.int .u8)).toArray hZ (by rw [List.size_toArray, List.length_map, hN]; kernel_rfl) (by rw [hz, List.size_toArray, List.length_map, hN]) (by simp [Value.oneCell'])
    have hZ := Aside0.mk hZ
    have hz := Aside0.mk hz
    have hN := Aside0.mk hN
    have hld := Aside0.mk hld
    have hst := Aside0.mk hst
    clear HZ
    go_wp2_with (first | ((with_reducible refine gate_dst (N := 32) rfl ?_); refine Kd.event_run rfl (exec_load _ _ rfl rfl hld.out) ?_) | ((with_reducible refine gate_store (t := 84) (p := 4) rfl ?_); refine store_event rfl rfl rfl (exec_store _ _ _ rfl rfl rfl hst.out) ?_; intro w2 hw2; have hw2 := Aside0.mk hw2))
    have hi : l1.take i = l1 := List.take_of_length_le (by omega)
    refine bodyPost_ret (results_cell_row rfl _ _ (w.heap.size + 1) 84 ((rdAll s (sec l0 s) (l1.take i)).map (Value.int .u8)).toArray (0, 0) _ rfl (setRow_heap _ _ _ _ _ _ hZ.out) Try.underlying84 rfl (by rw [List.size_toArray, List.length_map, hN.out]; kernel_rfl)) rfl ⟨by rw [hi]; rfl, below_row HB.out (by omega) _⟩

/-! ### yL_get: a text by hand -/
def byteL (l : List Int) : Prop := ∀ y ∈ l, 0 ≤ y ∧ y < 256
theorem rd_nat (t : List Int) (i : Nat) (hi : i < t.length) : rd t (i : Int) = t[i] := by
 simp [rd, List.getD_eq_getElem?_getD, List.getElem?_eq_getElem hi]
theorem four (t : List Int) (p : Nat) (hp : p + 4 ≤ t.length) : (t.take (p + 4)).drop p = [rd t p, rd t (p + 1), rd t (p + 2), rd t (p + 3)] := by
 have e1 : rd t (p : Int) = t[p] := rd_nat t p (by omega)
 have e2 : rd t ((p : Int) + 1) = t[p + 1] := rd_nat t (p + 1) (by omega)
 have e3 : rd t ((p : Int) + 2) = t[p + 2] := rd_nat t (p + 2) (by omega)
 have e4 : rd t ((p : Int) + 3) = t[p + 3] := rd_nat t (p + 3) (by omega)
 rw [e1, e2, e3, e4]
 refine List.ext_getElem (by simp; omega) (fun i h1 h2 => ?_)
 have hi : i < 4 := by simpa using h2
 rw [List.getElem_drop, List.getElem_take]
 match i, hi with
 | 0, _ => rfl
 | 1, _ => rfl
 | 2, _ => rfl
 | 3, _ => rfl
end Go.Proofs.Yteddpdonmhiplaa.PR
