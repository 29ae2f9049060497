-- Made by this session's programs out of the translation and of its own texts.
import Derived.Test.YteddpdonmhiplaaMFnExactWriteRecb
namespace Go.Proofs.Yteddpdonmhiplaa.PR
open Go.RowKit Go.Proofs.YteddpdonmhiplaaW.PrintWords Go.Proofs.YteddpdonmhiplaaW.PrintLast Go.Proofs.YteddpdonmhiplaaW.PrintMore
attribute [local go_sem] max2_int min2_int max_two min_two max_three min_three max_four min_four   -- for this text's walks alone
set_option linter.unusedVariables false
set_option linter.unusedSimpArgs false

/-! ### L_validDisk: a text by hand -/
def pendOk (n : Nat) (p : S79) : Bool := decide (0 ≤ p.f0) && decide (p.f0 < (n / 64 : Nat)) && decide (p.f1.length = 64)
def vD (l0 : List Int) (l1 : List S79) (a2 : Int) : Bool :=
 decide (l0.length % 64 = 0) && decide (1024 ≤ l0.length) && decide (l0.length ≤ 65599) && decide (l1.length ≤ 2000) && decide (-1 ≤ a2) && decide (a2 ≤ 1000000) && l1.all (pendOk l0.length)
theorem drop_all {α : Type} (p : α → Bool) (l : List α) (i : Nat) (h : i < l.length) : (l.drop i).all p = (p l[i] && (l.drop (i + 1)).all p) := by
 rw [List.drop_eq_getElem_cons h, List.all_cons]
theorem sectors_at (l0 : List Int) (hL : l0.length ≤ 1048576) : wrap64 ((l0.length : Int) / 64) = ((l0.length / 64 : Nat) : Int) := by unfold wrap64; omega
theorem specValid_loop (l0 : List Int) (l1 : List S79) (a2 : Int) (a3 : Bool) (hL : l1.length ≤ 1048576) : ∀ (d i : Nat), i + d = l1.length →
   Ev (fun k => spec_ValidDisk.l0 k ((l0.length / 64 : Nat) : Int) (i : Int) l0 l1 a2 a3) ((l1.drop i).all (pendOk l0.length))
 | 0, i, hd => by
   rw [List.drop_of_length_le (by omega), List.all_nil]
   exact Ev.step (fun k => by simp only [spec_ValidDisk.l0]; rw [if_neg (by omega)]) (Ev.now _)
 | d + 1, i, hd => by
   have hi : i < l1.length := by omega
   have er : rd_T79 l1 (i : Int) = l1[i] := by unfold rd_T79; rw [Int.toNat_natCast, List.getD_eq_getElem?_getD, List.getElem?_eq_getElem hi]; rfl
   rw [drop_all _ _ _ hi]
   have ih := specValid_loop l0 l1 a2 a3 hL d (i + 1) (by omega)
   have ew : wrap64 ((i : Int) + 1) = ((i + 1 : Nat) : Int) := by unfold wrap64; omega
   by_cases c1 : l1[i].f0 < 0
   ·rw [show pendOk l0.length l1[i] = false by unfold pendOk; simp <;> omega, Bool.false_and]
    exact Ev.step (fun k => by simp only [spec_ValidDisk.l0]; rw [if_pos (by omega), if_pos (by omega), er, if_pos c1]) (Ev.now _)
   by_cases c2 : l1[i].f0 ≥ ((l0.length / 64 : Nat) : Int)
   ·rw [show pendOk l0.length l1[i] = false by unfold pendOk; simp <;> omega, Bool.false_and]
    exact Ev.step (fun k => by simp only [spec_ValidDisk.l0]; rw [if_pos (by omega), if_pos (by omega), er, if_neg c1, if_pos c2]) (Ev.now _)
   by_cases c3 : (l1[i].f1.length : Int) = 64
   ·rw [show pendOk l0.length l1[i] = true by unfold pendOk; simp <;> omega, Bool.true_and]
    exact Ev.step (fun k => by simp only [spec_ValidDisk.l0]; rw [if_pos (by omega), if_pos (by omega), er, if_neg c1, if_neg c2, if_pos c3, ew]) ih
   ·rw [show pendOk l0.length l1[i] = false by unfold pendOk; simp <;> omega, Bool.false_and]
    exact Ev.step (fun k => by simp only [spec_ValidDisk.l0]; rw [if_pos (by omega), if_pos (by omega), er, if_neg c1, if_neg c2, if_neg c3]) (Ev.now _)
theorem specValid_ev (l0 : List Int) (l1 : List S79) (a2 : Int) (a3 : Bool) (h0 : l0.length ≤ 1048576) (hL : l1.length ≤ 1048576) : Ev (fun k => spec_ValidDisk.f k l0 l1 a2 a3) (vD l0 l1 a2) := by
 have hl := specValid_loop l0 l1 a2 a3 hL l1.length 0 (by omega)
 rw [List.drop_zero] at hl
 have ht : Ev (fun k => spec_ValidDisk.j0 k ((l0.length / 64 : Nat) : Int) true l0 l1 a2 a3) false := Ev.step (fun k => by simp only [spec_ValidDisk.j0]; rw [if_true]) (Ev.now _)
 refine Ev.congr (fun k => by unfold spec_ValidDisk.f spec_l1Sectors.f; rw [sectors_at l0 h0, Option.bind_some]) ?_
 by_cases c1 : ((l0.length : Int) % 64) = 0
 ·by_cases c2 : ((l0.length / 64 : Nat) : Int) < 16
  ·rw [show vD l0 l1 a2 = false by unfold vD; simp <;> omega]
   exact Ev.congr (fun k => by rw [if_pos c1, if_pos c2]) ht
  by_cases c3 : ((l0.length / 64 : Nat) : Int) > 1024
  ·rw [show vD l0 l1 a2 = false by unfold vD; simp <;> omega]
   exact Ev.congr (fun k => by rw [if_pos c1, if_neg c2, if_pos c3]) ht
  by_cases c4 : (l1.length : Int) > 2000
  ·rw [show vD l0 l1 a2 = false by unfold vD; simp <;> omega]
   exact Ev.congr (fun k => by rw [if_pos c1, if_neg c2, if_neg c3, if_pos c4]) ht
  by_cases c5 : a2 < -1
  ·rw [show vD l0 l1 a2 = false by unfold vD; simp <;> omega]
   exact Ev.congr (fun k => by rw [if_pos c1, if_neg c2, if_neg c3, if_neg c4, if_pos c5]) ht
  by_cases c6 : a2 > 1000000
  ·rw [show vD l0 l1 a2 = false by unfold vD; simp <;> omega]
   exact Ev.congr (fun k => by rw [if_pos c1, if_neg c2, if_neg c3, if_neg c4, if_neg c5, decide_eq_true c6]) ht
  ·rw [show vD l0 l1 a2 = l1.all (pendOk l0.length) by unfold vD; rw [decide_eq_true (by omega), decide_eq_true (by omega), decide_eq_true (by omega), decide_eq_true (by omega), decide_eq_true (by omega), decide_eq_true (by omega)]; simp]
   refine Ev.congr (fun k => by rw [if_pos c1, if_neg c2, if_neg c3, if_neg c4, if_neg c5, decide_eq_false c6]) ?_
   exact Ev.step (fun k => by simp only [spec_ValidDisk.j0]; rw [if_neg (by decide)]; rfl) hl
 ·rw [show vD l0 l1 a2 = false by unfold vD; simp <;> omega]
  exact Ev.congr (fun k => by rw [if_neg c1]) ht
theorem implValid_loop (l0 : List Int) (l1 : List S79) (a2 : Int) (a3 : Bool) (h0 : l0.length ≤ 1048576) (hL : l1.length ≤ 1048576) : ∀ (d i : Nat), i + d = l1.length →
   Ev (fun k => impl_ValidDisk.l0 k l1 (l1.length : Int) (i : Int) l0 l1 a2 a3) ((l1.drop i).all (pendOk l0.length))
 | 0, i, hd => by
   rw [List.drop_of_length_le (by omega), List.all_nil]
   exact Ev.step (fun k => by simp only [impl_ValidDisk.l0]; rw [if_neg (by omega)]) (Ev.now _)
 | d + 1, i, hd => by
   have hi : i < l1.length := by omega
   have er : rd_T79 l1 (i : Int) = l1[i] := by unfold rd_T79; rw [Int.toNat_natCast, List.getD_eq_getElem?_getD, List.getElem?_eq_getElem hi]; rfl
   rw [drop_all _ _ _ hi]
   have ih := implValid_loop l0 l1 a2 a3 h0 hL d (i + 1) (by omega)
   have ew : wrap64 ((i : Int) + 1) = ((i + 1 : Nat) : Int) := by unfold wrap64; omega
   have hh : impl_Disk_has.f l0 l1 a2 a3 l1[i].f0 = some (decide (0 ≤ l1[i].f0) && decide (l1[i].f0 < ((l0.length / 64 : Nat) : Int))) := by
    unfold impl_Disk_has.f impl_Disk_sectors.f
    rw [sectors_at l0 h0]
    by_cases c : l1[i].f0 ≥ 0
    ·rw [if_pos c, decide_eq_true (show 0 ≤ l1[i].f0 from c)]; simp
    ·rw [if_neg c, decide_eq_false (show ¬ 0 ≤ l1[i].f0 from c)]; simp
   by_cases c1 : (decide (0 ≤ l1[i].f0) && decide (l1[i].f0 < ((l0.length / 64 : Nat) : Int))) = true
   ·by_cases c3 : (l1[i].f1.length : Int) = 64
    ·rw [show pendOk l0.length l1[i] = true by unfold pendOk; rw [c1, decide_eq_true (by omega)]; rfl, Bool.true_and]
     exact Ev.step (fun k => by simp only [impl_ValidDisk.l0]; rw [if_pos (by omega), if_pos (by omega), if_pos (by omega), er, hh, c1]; simp only [Option.bind_some, if_true]; rw [if_pos c3, ew]) ih
    ·rw [show pendOk l0.length l1[i] = false by unfold pendOk; rw [decide_eq_false (show ¬ l1[i].f1.length = 64 by omega)]; simp, Bool.false_and]
     exact Ev.step (fun k => by simp only [impl_ValidDisk.l0]; rw [if_pos (by omega), if_pos (by omega), if_pos (by omega), er, hh, c1]; simp only [Option.bind_some, if_true]; rw [if_neg c3]) (Ev.now _)
   ·have c1' := Bool.eq_false_iff.2 c1
    rw [show pendOk l0.length l1[i] = false by unfold pendOk; rw [c1']; rfl, Bool.false_and]
    exact Ev.step (fun k => by simp only [impl_ValidDisk.l0]; rw [if_pos (by omega), if_pos (by omega), if_pos (by omega), er, hh, c1']; simp) (Ev.now _)
theorem implValid_ev (l0 : List Int) (l1 : List S79) (a2 : Int) (a3 : Bool) (h0 : l0.length ≤ 1048576) (hL : l1.length ≤ 1048576) : Ev (fun k => impl_ValidDisk.f k l0 l1 a2 a3) (vD l0 l1 a2) := by
 have hl := implValid_loop l0 l1 a2 a3 h0 hL l1.length 0 (by omega)
 rw [List.drop_zero] at hl
 have ht0 : Ev (fun k => impl_ValidDisk.j0 k true l0 l1 a2 a3) false := Ev.step (fun k => by simp only [impl_ValidDisk.j0]; rw [if_true]) (Ev.now _)
 have ht1 : Ev (fun k => impl_ValidDisk.j1 k true l0 l1 a2 a3) false := Ev.step (fun k => by simp only [impl_ValidDisk.j1]; rw [if_true]) (Ev.now _)
 refine Ev.congr (fun k => by unfold impl_ValidDisk.f impl_Disk_sectors.f; rw [sectors_at l0 h0, Option.bind_some, Option.bind_some]) ?_
 by_cases c1 : ((l0.length : Int) % 64) = 0
 ·by_cases c2 : ((l0.length / 64 : Nat) : Int) < 16
  ·rw [show vD l0 l1 a2 = false by unfold vD; simp <;> omega]
   exact Ev.congr (fun k => by rw [if_pos c1, if_pos c2]) ht0
  by_cases c3 : ((l0.length / 64 : Nat) : Int) > 1024
  ·rw [show vD l0 l1 a2 = false by unfold vD; simp <;> omega]
   exact Ev.congr (fun k => by rw [if_pos c1, if_neg c2, decide_eq_true c3]) ht0
  refine Ev.congr (fun k => by rw [if_pos c1, if_neg c2, decide_eq_false c3]) ?_
  by_cases c4 : (l1.length : Int) > 2000
  ·rw [show vD l0 l1 a2 = false by unfold vD; simp <;> omega]
   exact Ev.step (fun k => by simp only [impl_ValidDisk.j0]; rw [if_neg (by decide), if_pos c4]) ht1
  by_cases c5 : a2 < -1
  ·rw [show vD l0 l1 a2 = false by unfold vD; simp <;> omega]
   exact Ev.step (fun k => by simp only [impl_ValidDisk.j0]; rw [if_neg (by decide), if_neg c4, if_pos c5]) ht1
  by_cases c6 : a2 > 1000000
  ·rw [show vD l0 l1 a2 = false by unfold vD; simp <;> omega]
   exact Ev.step (fun k => by simp only [impl_ValidDisk.j0]; rw [if_neg (by decide), if_neg c4, if_neg c5, decide_eq_true c6]) ht1
  ·rw [show vD l0 l1 a2 = l1.all (pendOk l0.length) by unfold vD; rw [decide_eq_true (by omega), decide_eq_true (by omega), decide_eq_true (by omega), decide_eq_true (by omega), decide_eq_true (by omega), decide_eq_true (by omega)]; simp]
   refine Ev.step (fun k => by simp only [impl_ValidDisk.j0]; rw [if_neg (by decide), if_neg c4, if_neg c5, decide_eq_false c6]) ?_
   exact Ev.step (fun k => by simp only [impl_ValidDisk.j1]; rw [if_neg (by decide)]; rfl) hl
 ·rw [show vD l0 l1 a2 = false by unfold vD; simp <;> omega]
  exact Ev.congr (fun k => by rw [if_neg c1]) ht0

/-! ### L_vD2: a text by hand -/
def inD (l0 : List Int) (s : Int) : Bool := decide (0 ≤ s) && decide (s < ((l0.length / 64 : Nat) : Int))
theorem has_eq (l0 : List Int) (l1 : List S79) (a2 : Int) (a3 : Bool) (s : Int) (h0 : l0.length ≤ 1048576) : impl_Disk_has.f l0 l1 a2 a3 s = some (inD l0 s) := by
 unfold impl_Disk_has.f impl_Disk_sectors.f inD
 rw [sectors_at l0 h0]
 by_cases c : s ≥ 0
 ·rw [if_pos c, Option.bind_some, decide_eq_true (show 0 ≤ s from c), Bool.true_and]
 ·rw [if_neg c, decide_eq_false (show ¬ 0 ≤ s from c), Bool.false_and]
theorem vD_facts {l0 : List Int} {l1 : List S79} {a2 : Int} (h : vD l0 l1 a2 = true) : l0.length % 64 = 0 ∧ 1024 ≤ l0.length ∧ l0.length ≤ 65599 ∧ l1.length ≤ 2000 ∧ -1 ≤ a2 ∧ a2 ≤ 1000000 ∧ ∀ x ∈ l1, 0 ≤ x.f0 ∧ x.f0 < ((l0.length / 64 : Nat) : Int) ∧ x.f1.length = 64 := by
 unfold vD at h
 simp only [Bool.and_eq_true, decide_eq_true_eq, List.all_eq_true] at h
 obtain ⟨⟨⟨⟨⟨⟨h1, h2⟩, h3⟩, h4⟩, h5⟩, h6⟩, h7⟩ := h
 refine ⟨h1, h2, h3, h4, h5, h6, fun x hx => ?_⟩
 have := h7 x hx
 unfold pendOk at this
 simp only [Bool.and_eq_true, decide_eq_true_eq] at this
 exact ⟨this.1.1, this.1.2, this.2⟩

/-! ### L_put4: a text by hand -/
def put4 (x : Int) : List Int := [x % 256, x / 256 % 256, x / 256 / 256 % 256, x / 256 / 256 / 256 % 256]
theorem put_step (k : Nat) (x : Int) (l : List Int) (i : Int) (h0 : 0 ≤ i) (hi : i < 4) (hl : l.length < 100) (hx : 0 ≤ x) (hx2 : x < 4294967296) :
  spec_l2Put.l0 (k + 1) x 4 l i = spec_l2Put.l0 k (x / 256) 4 (l ++ [x % 256]) (i + 1) := by
 rw [spec_l2Put.l0, if_pos hi, if_pos (by omega), Int.tdiv_eq_ediv_of_nonneg hx, Int.tmod_eq_emod_of_nonneg hx]
 rw [show wrap64 (x / 256) = x / 256 from by unfold wrap64; omega, show wrap64 (i + 1) = i + 1 from by unfold wrap64; omega, show x % 256 % 256 = x % 256 from by omega]
theorem iput_step (k : Nat) (xs : List Int) (p x : Int) (i n : Nat) (hi : i < 4) (hp : 0 ≤ p) (hpl : p + i < xs.length) (hxl : xs.length < 1000) (hn : (p + i).toNat = n) :
  impl_put.l0 (k + 1) xs p x 4 i = impl_put.l0 k (xs.set n (x / 2 ^ (8 * i) % 256)) p x 4 ((i + 1 : Nat) : Int) := by
 have e1 : wrap64 (8 * (i : Int)) = ((8 * i : Nat) : Int) := by unfold wrap64; omega
 have e2 : wrap64 (p + (i : Int)) = p + i := by unfold wrap64; omega
 have e3 : wrap64 ((i : Int) + 1) = ((i + 1 : Nat) : Int) := by unfold wrap64; omega
 have e4 : shr IntKind.i64 x ((8 * i : Nat) : Int) = x / 2 ^ (8 * i) := by
  show x / 2 ^ min (((8 * i : Nat) : Int)).toNat 64 = _
  rw [Int.toNat_natCast, Nat.min_eq_left (by omega)]
 rw [impl_put.l0, if_pos (by omega), e1, if_pos (by omega), e2, if_pos (by omega), if_pos (by omega), e3, e4, hn]
theorem impl_put4 (xs : List Int) (p x : Int) (n : Nat) (hp : 0 ≤ p) (hn : p.toNat = n) (hpl : p + 4 ≤ xs.length) (hxl : xs.length < 1000) (hx : 0 ≤ x) (hx2 : x < 4294967296) :
  impl_put.f 5 xs p 4 x = some ((((xs.set n (x % 256)).set (n + 1) (x / 256 % 256)).set (n + 2) (x / 256 / 256 % 256)).set (n + 3) (x / 256 / 256 / 256 % 256)) := by
 unfold impl_put.f
 rw [show (0 : Int) = ((0 : Nat) : Int) from rfl, iput_step 4 xs p x 0 n (by decide) hp (by omega) hxl (by omega), iput_step 3 _ p x 1 (n + 1) (by decide) hp (by simp; omega) (by simpa using hxl) (by omega), iput_step 2 _ p x 2 (n + 2) (by decide) hp (by simp; omega) (by simpa using hxl) (by omega), iput_step 1 _ p x 3 (n + 3) (by decide) hp (by simp; omega) (by simpa using hxl) (by omega), impl_put.l0, if_neg (by decide)]
 rw [show x / 2 ^ (8 * 0) = x from by simp, show x / 2 ^ (8 * 1) = x / 256 from by rw [show (2 : Int) ^ (8 * 1) = 256 from rfl], show x / 2 ^ (8 * 2) = x / 256 / 256 from by rw [show (2 : Int) ^ (8 * 2) = 65536 from rfl]; omega, show x / 2 ^ (8 * 3) = x / 256 / 256 / 256 from by rw [show (2 : Int) ^ (8 * 3) = 16777216 from rfl]; omega]
theorem crc_bd (k : Nat) (l : List Int) (c : Int) (hl : l.length ≤ 9223372036854775807) (h : spec_Crc32.f k l = some c) : 0 ≤ c ∧ c < 4294967296 := by
 rw [(crcSpec l c hl k).1 _ 0 h (by omega) rfl]
 have h0 := bits_lo_u32 .xor (crcT l l.length) 4294967295
 have h1 := bits_hi_u32 .xor (crcT l l.length) 4294967295
 exact ⟨h0, by omega⟩

/-! ### L_putEv: a text by hand -/
theorem put_ev (x : Int) (hx : 0 ≤ x) (hx2 : x < 4294967296) : Ev (fun k => spec_l2Put.f k x 4) (put4 x) := by
 refine Ev.of (fun k => spec_l2Put.mono _ _ k) (k := 5) ?_
 unfold spec_l2Put.f
 have hx' : 0 ≤ x / 256 ∧ x / 256 < 4294967296 := by omega
 have hx'' : 0 ≤ x / 256 / 256 ∧ x / 256 / 256 < 4294967296 := by omega
 have hx3 : 0 ≤ x / 256 / 256 / 256 ∧ x / 256 / 256 / 256 < 4294967296 := by omega
 rw [put_step _ _ _ _ (by decide) (by decide) (by simp) hx hx2, put_step _ _ _ _ (by decide) (by decide) (by simp) hx'.1 hx'.2, put_step _ _ _ _ (by decide) (by decide) (by simp) hx''.1 hx''.2, put_step _ _ _ _ (by decide) (by decide) (by simp) hx3.1 hx3.2, spec_l2Put.l0, if_neg (by decide)]
 rfl
theorem cat_ev (ls : List (List Int)) (hl : ls.length < 1000) (hb : ∀ x ∈ ls, x.length ≤ 100) : ∀ (m i : Nat) (acc : List Int), i + m = ls.length → acc.length ≤ 100 * i → Ev (fun k => spec_l2Cat.l0 k ls acc i) (acc ++ (ls.drop i).flatten)
 | 0, i, acc, hi, ha => by
   have e : ls.drop i = [] := List.drop_of_length_le (by omega)
   rw [e]
   refine Ev.step (f := fun _ => some (acc ++ [].flatten)) (fun K => ?_) (Ev.now _)
   rw [spec_l2Cat.l0, if_neg (by omega)]
   simp
 | m + 1, i, acc, hi, ha => by
   have hlt : i < ls.length := by omega
   have e : rd_L2 ls i = ls[i] := by simp [rd_L2, hlt]
   have hx := hb ls[i] (List.getElem_mem hlt)
   have ih := cat_ev ls hl hb m (i + 1) (acc ++ ls[i]) (by omega) (by rw [List.length_append]; omega)
   rw [List.drop_eq_getElem_cons hlt, List.flatten_cons, ← List.append_assoc]
   refine Ev.step (fun K => ?_) ih
   rw [spec_l2Cat.l0, if_pos (by omega), if_pos (by omega), e, if_pos (by omega), show wrap64 ((i : Int) + 1) = ((i + 1 : Nat) : Int) from by unfold wrap64; omega]
theorem cat_evf (ls : List (List Int)) (hl : ls.length < 1000) (hb : ∀ x ∈ ls, x.length ≤ 100) : Ev (fun k => spec_l2Cat.f k ls) ls.flatten := by
 have : Ev (fun k => spec_l2Cat.l0 k ls [] 0) ls.flatten := by simpa using cat_ev ls hl hb ls.length 0 [] (by omega) (by simp)
 exact this
theorem crc_l1_ev (l : List Int) (i : Nat) (hi : i < 4611686018427387904) (next : ∀ x, ∃ r, Ev (fun k => spec_Crc32.l0 k l x ((i + 1 : Nat) : Int)) r) : ∀ (m j : Nat), j + m = 8 → ∀ x, ∃ r, Ev (fun k => spec_Crc32.l1 k l x i j) r
 | 0, j, hj, x => by
   obtain ⟨r, hr⟩ := next x
   exact ⟨r, Ev.step (fun K => by rw [spec_Crc32.l1, if_neg (by omega), show wrap64 ((i : Int) + 1) = ((i + 1 : Nat) : Int) from by unfold wrap64; omega]) hr⟩
 | m + 1, j, hj, x => by
   have ew : wrap64 ((j : Int) + 1) = ((j + 1 : Nat) : Int) := by unfold wrap64; omega
   by_cases c : Int.tmod x 2 = 1
   ·obtain ⟨r, hr⟩ := crc_l1_ev l i hi next m (j + 1) (by omega) (Go.bits .xor .u32 ((Int.tdiv x 2) % 4294967296) 3988292384)
    exact ⟨r, Ev.step (fun K => by rw [spec_Crc32.l1, if_pos (by omega), if_pos c, ew]) hr⟩
   ·obtain ⟨r, hr⟩ := crc_l1_ev l i hi next m (j + 1) (by omega) ((Int.tdiv x 2) % 4294967296)
    exact ⟨r, Ev.step (fun K => by rw [spec_Crc32.l1, if_pos (by omega), if_neg c, ew]) hr⟩
theorem crc_l0_ev (l : List Int) (hl : l.length < 4611686018427387904) : ∀ (m i : Nat), i + m = l.length → ∀ x, ∃ r, Ev (fun k => spec_Crc32.l0 k l x i) r
 | 0, i, hi, x => ⟨_, Ev.step (f := fun _ => some (Go.bits .xor .u32 x 4294967295)) (fun K => by rw [spec_Crc32.l0, if_neg (by omega)]) (Ev.now _)⟩
 | m + 1, i, hi, x => by
   obtain ⟨r, hr⟩ := crc_l1_ev l i (by omega) (fun y => crc_l0_ev l hl m (i + 1) (by omega) y) 8 0 rfl (Go.bits .xor .u32 x ((rd l i) % 4294967296))
   exact ⟨r, Ev.step (fun K => by rw [spec_Crc32.l0, if_pos (by omega), if_pos (by omega)]; rfl) hr⟩
theorem crc_ev (l : List Int) (hl : l.length < 4611686018427387904) : ∃ r, Ev (fun k => spec_Crc32.f k l) r := crc_l0_ev l hl l.length 0 (by omega) 4294967295

/-! ### impl_get: function 71 -/
def impl_get.l0 : Nat → List Int → Int → Int → Int → Option (Int)
 | 0, _, _, _, _ => none
 | k + 1, x0, x1, x7, x8 => if x8 ≥ 0 then (if 0 ≤ (wrap64 (x1 + x8)) then (if (wrap64 (x1 + x8)) < (x0.length : Int) then (impl_get.l0 k x0 x1 (Go.bits .or .i64 (wrap64 (x7 * 256)) (wrap64 (rd x0 (wrap64 (x1 + x8))))) (wrap64 (x8 - 1))) else (none)) else (none)) else (some x7)
def impl_get.f (k : Nat) (l0 : List Int) (a1 : Int) (a2 : Int) : Option (Int) := impl_get.l0 k l0 a1 0 (wrap64 (a2 - 1))

/-! ### yL_get: a text by hand -/
def byteL (l : List Int) : Prop := ∀ y ∈ l, 0 ≤ y ∧ y < 256
theorem rd_nat (t : List Int) (i : Nat) (hi : i < t.length) : rd t (i : Int) = t[i] := by
 simp [rd, List.getD_eq_getElem?_getD, List.getElem?_eq_getElem hi]
theorem four (t : List Int) (p : Nat) (hp : p + 4 ≤ t.length) : (t.take (p + 4)).drop p = [rd t p, rd t (p + 1), rd t (p + 2), rd t (p + 3)] := by
 have e1 : rd t (p : Int) = t[p] := rd_nat t p (by omega)
 have e2 : rd t ((p : Int) + 1) = t[p + 1] := rd_nat t (p + 1) (by omega)
 have e3 : rd t ((p : Int) + 2) = t[p + 2] := rd_nat t (p + 2) (by omega)
 have e4 : rd t ((p : Int) + 3) = t[p + 3] := rd_nat t (p + 3) (by omega)
 rw [e1, e2, e3, e4]
 refine List.ext_getElem (by simp; omega) (fun i h1 h2 => ?_)
 have hi : i < 4 := by simpa using h2
 rw [List.getElem_drop, List.getElem_take]
 match i, hi with
 | 0, _ => rfl
 | 1, _ => rfl
 | 2, _ => rfl
 | 3, _ => rfl

/-! ### laws_markByteS: function 39 -/
def laws_markByteS.l0 : Nat → List Int → Int → Int → Option (Int × List Int)
 | 0, _, _, _ => none
 | k + 1, x0, x1, x5 => if x5 < (x0.length : Int) then (if 0 ≤ x5 then (laws_markByteS.l0 k (x0.set (x5 : Int).toNat ((x1) % 256)) (wrap64 (x1 + 1)) (wrap64 (x5 + 1))) else (none)) else (some (x1, x0))
def laws_markByteS.f (k : Nat) (l0 : List Int) (a1 : Int) : Option (Int × List Int) := laws_markByteS.l0 k l0 a1 0
set_option maxHeartbeats 8000000 in
set_option maxRecDepth 100000 in
theorem laws_markByteS.calls (k : Nat) (P0_ : Nat → Prop) (u9000_ : Value) (l0 : List Int) (a1 : Int) (r1 : Int) (r2 : List Int) (w0 w : World) (hB : Below w0.heap.size w0 w) (ho0 : Kd.R (Kd.int .u8) 5 w w0.heap.size P0_ u9000_ l0) (h : laws_markByteS.f k l0 a1 = some (r1, r2)) :
  Calls Try.prog 39 #[u9000_, .int .i64 a1] w fun e w' => e = .returned (.int .i64 r1) ∧ Kd.R (Kd.int .u8) 5 w' w0.heap.size (fun k_ => (P0_ k_ ∨ w.heap.size ≤ k_)) u9000_ r2 ∧ Below w0.heap.size w0 w' ∧ Kept w w' (fun k_ => P0_ k_) := by
 have HO0 := Aside0.mk (show Kd.R (Kd.int .u8) 5 w w0.heap.size (fun k_ => (P0_ k_ ∨ w.heap.size ≤ k_)) u9000_ l0 from Kd.R_mono ho0 (fun k_ hk => (.inl hk)))
 have HK := Aside0.mk (Kept.refl w (fun k_ => P0_ k_))
 have HW0 := Aside0.mk hB.size
 have HB := Aside0.mk hB
 clear hB
 have H : (laws_markByteS.l0 k l0 a1 0) = some (r1, r2) := h
 clear h
 have H' := Aside0.mk H
 clear H
 go_enter Try.func39, Try.ntmps39
 go_wp2
 go_loopg [1, 5] k (fun kq v1 v5 w' => ∃ (x0_1 : List Int) (x1_1 : Int) (x5_1 : Int), v1 = .int .i64 x1_1 ∧ v5 = .int .i64 x5_1 ∧ Aside0 (laws_markByteS.l0 kq x0_1 x1_1 x5_1 = some (r1, r2)) ∧ Aside0 (kq ≤ k) ∧ Aside0 (Kd.R (Kd.int .u8) 5 w' w0.heap.size (fun k_ => (P0_ k_ ∨ w.heap.size ≤ k_)) u9000_ x0_1) ∧ Aside0 (Kept w w' (fun k_ => P0_ k_)) ∧ Aside0 (Below w0.heap.size w0 w'))
 case atStart => exact ⟨(l0), (a1), (0), (by first | rfl | (simp; done) | (simp [*]; done)), (by first | rfl | (simp; done) | (simp [*]; done)), H', ⟨Nat.le_refl _⟩, ⟨by (with_reducible repeat (first | apply Kd.R_alloc | apply Kd.R_drewN | apply Kd.R_drew)); exact HO0.out⟩, ⟨by repeat (first | (with_reducible first | exact HK.out | apply Kept.alloc | apply Kept.drewN | apply Kept.drew) | exact HK.out)⟩, ⟨by repeat (first | (with_reducible first | exact HB.out | apply below_alloc | apply pw_below_drewN | apply below_drew1) | exact HB.out)⟩⟩
 case round =>
  clear H'
  try clear p2
  obtain ⟨x0_1, x1_1, x5_1, rfl, rfl, HA, HK1, HO_0, HK, HB⟩ := hrel
  cases gk with
  | zero => exact absurd HA.out (by simp [laws_markByteS.l0])
  | succ k1 =>
    have H := HA.out
    clear HA
    simp only [laws_markByteS.l0] at H
    by_cases c3 : x5_1 < (x0_1.length : Int)
    ·rw [if_pos c3] at H
     have c3b0 : decide (x5_1 < (x0_1.length : Int)) = true := decide_eq_true c3
     clear c3
     by_cases c4 : 0 ≤ x5_1
     ·rw [if_pos c4] at H
      have c4b0 : decide (0 ≤ x5_1) = true := decide_eq_true c4
      clear c4
      obtain ⟨y355, hy355⟩ : ∃ y_ : List Int, y_ = (x0_1.set (x5_1 : Int).toNat ((x1_1) % 256)) := ⟨_, rfl⟩
      replace H : (laws_markByteS.l0 k1 y355 (wrap64 (x1_1 + 1)) (wrap64 (x5_1 + 1))) = some (r1, r2) := by first | (rw [hy355]; with_reducible exact H) | (have H2_ := (Option.bind_some _ _).symm.trans H; rw [hy355]; with_reducible exact H2_) | (have H2_ := (Option.bind_some _ _).symm.trans H; with_reducible exact H2_) | with_reducible exact H | (rw [hy355]; exact H) | exact H
      have Ny355 := Aside0.mk hy355
      clear hy355
      have H' := Aside0.mk H
      clear H
      obtain ⟨Ao6, co6, eo6⟩ := Kd.R_slice HO_0.out
      subst eo6
      have p5 : 0 ≤ (x5_1 : Int) := of_decide_eq_true (by first | (with_reducible assumption) | assumption)
      have q5 : (x5_1 : Int) < ((x0_1.length : Int) : Int) := of_decide_eq_true (by first | (with_reducible assumption) | assumption)
      obtain ⟨go5, co5, eo5, gb5, gl5, cl5, HG5⟩ := Kd.R_form HO_0.out (by omega)
      (first | cases eo5 | (injection eo5 with ea_ en_ ec_; (first | subst ea_ | (injection ea_ with ea_; subst ea_)); subst ec_; clear en_))
      have GB5 := Aside0.mk gb5
      have GG5 := Aside0.mk HG5
      clear gb5 gl5 HG5
      have HMgo5 := Aside0.mk (show (P0_ go5 ∨ w.heap.size ≤ go5) from (HO_0.out.1 _ rfl))
      obtain ⟨hx5_0, hf5_0⟩ := Kd.R_celln 0 HO_0.out (x5_1 : Int) p5 q5
      replace p5 := eq_true p5
      replace q5 := eq_true q5
      have HP7 := Kd.R_putg HO_0.out (x5_1 : Int) ((x1_1) % 256)
      go_wp2_with (first | ((with_reducible refine gate_store (t := 5) (p := 16) rfl ?_); refine store_event (t := 5) (p := 16) (v := ?vo_w8) (w1 := (wr.setCell ⟨go5, (x5_1 : Int).toNat, none⟩ (.int .u8 ((x1_1) % 256)))) ?hg ?ho ?hn ?hr ?_; (case ho => rfl); (case hg => rfl); (case hn => rfl); (case hr => first | (go_simp; done) | (go_simp; rfl)); intro w8 hw; have hg : wr.grownBy w8 (some go5) := (by rw [hw]; exact HP7.2); have hp_ : Kd.R (Kd.int .u8) 5 w8 w0.heap.size (fun k_ => (P0_ k_ ∨ w.heap.size ≤ k_)) (.slice (some ⟨go5, 0, none⟩) x0_1.length co6) y355 := (by rw [hw, Ny355.out]; exact HP7.1); clear HP7; have n0_ := Aside0.mk (hp_); have n1_ := Aside0.mk ((by rw [hw]; exact below_set (HB.out) GB5.out : Below w0.heap.size w0 w8)); have n2_ := Aside0.mk (Kept.of_grown (S := (fun k_ => P0_ k_)) hg (by repeat (first | (with_reducible first | exact HK.out | apply Kept.alloc | apply Kept.drewN | apply Kept.drew) | exact HK.out)) (fun k_ e_ => (HO_0.out.1 k_ e_))); clear HO_0; clear HB; clear HK; have HO_0 := n0_; have HB := n1_; have HK := n2_; clear n0_ n1_ n2_; clear hg hw hp_))
      go_roundg k1
      case measure => have := HK1.out; omega
      case rel => exact ⟨(y355), (wrap64 (x1_1 + 1)), (wrap64 (x5_1 + 1)), (by first | rfl | (simp; done) | (simp [*]; done)), (by first | rfl | (simp; done) | (simp [*]; done)), H', ⟨by have := HK1.out; omega⟩, ⟨by (with_reducible repeat (first | apply Kd.R_alloc | apply Kd.R_drewN | apply Kd.R_drew)); exact HO_0.out⟩, ⟨by repeat (first | (with_reducible first | exact HK.out | apply Kept.alloc | apply Kept.drewN | apply Kept.drew) | exact HK.out)⟩, ⟨by repeat (first | (with_reducible first | exact HB.out | apply below_alloc | apply pw_below_drewN | apply below_drew1) | exact HB.out)⟩⟩
     ·rw [if_neg c4] at H
      exact absurd H (by simp)
    ·rw [if_neg c3] at H
     have c3b0 : decide (x5_1 < (x0_1.length : Int)) = false := decide_eq_false c3
     clear c3
     simp only [Option.some.injEq, Prod.mk.injEq] at H
     obtain ⟨rfl, rfl⟩ := H
     obtain ⟨Ao9, co9, eo9⟩ := Kd.R_slice HO_0.out
     subst eo9
     go_wp2
     go_ret
     exact ⟨by first | rfl | (simp [errW_none, errW_some] <;> rfl) | (simp [*, errW_none, errW_some] <;> rfl), by (with_reducible repeat (first | apply Kd.R_alloc | apply Kd.R_drewN | apply Kd.R_drew)); exact HO_0.out, by repeat (first | (with_reducible first | exact HB.out | apply below_alloc | apply pw_below_drewN | apply below_drew1) | exact HB.out), by repeat (first | (with_reducible first | exact HK.out | apply Kept.alloc | apply Kept.drewN | apply Kept.drew) | exact HK.out)⟩

/-! ### spec_l1Copy: function 76 -/
def spec_l1Copy.l0 : Nat → Int → List Int → List (S79) → Int → Bool → List Int → List (S79) → Int → Bool → Option (List Int × (List (S79)) × Int × Bool)
 | 0, _, _, _, _, _, _, _, _, _ => none
 | k + 1, x4, x360000, x360001, x360002, x360003, x368000, x368001, x368002, x368003 => if x4 < (x360001.length : Int) then (if 0 ≤ x4 then ((some (([] : List Int) : List Int)).bind fun y369 => (if y369.length + ((rd_T79 x360001 x4).f1).length < 140737488355328 then (if x368001.length < 4398046511104 then (spec_l1Copy.l0 k (wrap64 (x4 + 1)) x360000 x360001 x360002 x360003 x368000 (x368001 ++ [(⟨(rd_T79 x360001 x4).f0, (y369 ++ ((rd_T79 x360001 x4).f1))⟩ : S79)]) x368002 x368003) else (none)) else (none))) else (none)) else (some (x368000, x368001, x368002, x368003))
def spec_l1Copy.f (k : Nat) (l0_0 : List Int) (l0_1 : List (S79)) (a0_2 : Int) (a0_3 : Bool) : Option (List Int × (List (S79)) × Int × Bool) := (some (([] : List Int) : List Int)).bind fun y361 => (if y361.length + l0_0.length < 140737488355328 then (spec_l1Copy.l0 k 0 l0_0 l0_1 a0_2 a0_3 (y361 ++ l0_0) ([] : List (S79)) a0_2 a0_3) else (none))
def spec_l1Copy.T1 : Bool × List (List Nat × List Nat) := (true, [([], []), ([], []), ([1], [1]), ([0, 2], [0, 2]), ([], []), ([4], [4]), ([], []), ([6], [6]), ([3, 5, 7], [3, 5, 7]), ([], []), ([9, 8, 3, 0, 1, 2, 3, 4, 5, 6, 7, 8, 9], [8, 9])])
def spec_l1Copy.B1 : List Nat := [0, 0, 2, 7, 0, 16, 0, 64, 255, 0, 1023]
theorem spec_l1Copy.tab1 : rtab .any (opsOf Try.f76 1) = spec_l1Copy.T1 := by kernel_rfl
theorem spec_l1Copy.bits1 : waitsOk spec_l1Copy.T1.2 spec_l1Copy.B1 = true := by kernel_rfl
def spec_l1Copy.T5 : Bool × List (List Nat × List Nat) := (true, [([], []), ([0], [0]), ([], []), ([2], [2]), ([], []), ([3, 4], [3, 4]), ([5], [5]), ([6], [6]), ([], []), ([], []), ([9], [9]), ([], []), ([10, 11], [10, 11]), ([12], [12]), ([13], [13]), ([8, 14], [8, 14]), ([7, 15], [7, 15]), ([16], [16]), ([1, 17, 15], [1, 17]), ([0, 1, 2, 3, 4, 5, 6, 7, 8, 9, 10, 11, 12, 13, 14, 15, 16, 17, 18], []), ([19, 18, 18, 0, 1, 2, 3, 4, 5, 6, 7, 8, 9, 10, 11, 12, 13, 14, 15, 16, 17, 18], [18, 19])])
def spec_l1Copy.B5 : List Nat := [0, 1, 0, 4, 0, 28, 60, 124, 0, 0, 512, 0, 3584, 7680, 15872, 32512, 65532, 131068, 262143, 524287, 1048575]
theorem spec_l1Copy.tab5 : rtab .any (opsOf Try.f76 5) = spec_l1Copy.T5 := by kernel_rfl
theorem spec_l1Copy.bits5 : waitsOk spec_l1Copy.T5.2 spec_l1Copy.B5 = true := by kernel_rfl
set_option maxHeartbeats 8000000 in
set_option maxRecDepth 100000 in
theorem spec_l1Copy.calls (k : Nat) (A0_0 : Option Addr) (c0_0 : Nat) (l0_0 : List Int) (A0_1 : Option Addr) (c0_1 : Nat) (l0_1 : List (S79)) (a0_2 : Int) (a0_3 : Bool) (r1 : List Int) (r2 : List (S79)) (r3 : Int) (r4 : Bool) (w : World) (hr0_0 : Kd.C (Kd.int .u8) w A0_0 l0_0.length l0_0) (hc0_0 : l0_0.length ≤ c0_0) (hr0_1 : Kd.C k79 w A0_1 l0_1.length l0_1) (hc0_1 : l0_1.length ≤ c0_1) (h : spec_l1Copy.f k l0_0 l0_1 a0_2 a0_3 = some (r1, r2, r3, r4)) :
  Calls Try.prog 76 #[.agg #[.slice A0_0 l0_0.length c0_0, .slice A0_1 l0_1.length c0_1, .int .i64 a0_2, .bool a0_3]] w fun e w' => ∃ v0_ v1_ : Value, e = .returned (.agg #[v0_, v1_, .int .i64 r3, .bool r4]) ∧ Kd.R (Kd.int .u8) 5 w' w.heap.size (fun _ => True) v0_ r1 ∧ Kd.S k79 79 w' w.heap.size (fun k_ => some k_ ≠ (v0_ : Value).ownBlock) v1_ r2 ∧ Below w.heap.size w w' := by
 have hu25 := Try.underlying25
 have hu79 := Try.underlying79
 have HR0_0 := Aside0.mk hr0_0
 have HC0_0 := Aside0.mk hc0_0
 clear hr0_0 hc0_0
 have HR0_1 := Aside0.mk hr0_1
 have HC0_1 := Aside0.mk hc0_1
 clear hr0_1 hc0_1
 have HB := Aside0.mk (Below.refl w.heap.size w)
 have H : ((some (([] : List Int) : List Int)).bind fun y361 => (if y361.length + l0_0.length < 140737488355328 then (spec_l1Copy.l0 k 0 l0_0 l0_1 a0_2 a0_3 (y361 ++ l0_0) ([] : List (S79)) a0_2 a0_3) else (none))) = some (r1, r2, r3, r4) := h
 clear h
 obtain ⟨y361, hy361⟩ : ∃ y_ : List Int, y_ = (([] : List Int)) := ⟨_, rfl⟩
 replace H : (if y361.length + l0_0.length < 140737488355328 then (spec_l1Copy.l0 k 0 l0_0 l0_1 a0_2 a0_3 (y361 ++ l0_0) ([] : List (S79)) a0_2 a0_3) else (none)) = some (r1, r2, r3, r4) := by first | (rw [hy361]; with_reducible exact H) | (have H2_ := (Option.bind_some _ _).symm.trans H; rw [hy361]; with_reducible exact H2_) | (have H2_ := (Option.bind_some _ _).symm.trans H; with_reducible exact H2_) | with_reducible exact H | (rw [hy361]; exact H) | exact H
 have Ny361 := Aside0.mk hy361
 clear hy361
 by_cases c2 : y361.length + l0_0.length < 140737488355328
 ·rw [if_pos c2] at H
  have LMc2 := Aside0.mk c2
  clear c2
  obtain ⟨y364, hy364⟩ : ∃ y_ : List Int, y_ = (y361 ++ l0_0) := ⟨_, rfl⟩
  replace H : (spec_l1Copy.l0 k 0 l0_0 l0_1 a0_2 a0_3 y364 ([] : List (S79)) a0_2 a0_3) = some (r1, r2, r3, r4) := by first | (rw [hy364]; with_reducible exact H) | (have H2_ := (Option.bind_some _ _).symm.trans H; rw [hy364]; with_reducible exact H2_) | (have H2_ := (Option.bind_some _ _).symm.trans H; with_reducible exact H2_) | with_reducible exact H | (rw [hy364]; exact H) | exact H
  have Ny364 := Aside0.mk hy364
  clear hy364
  have H' := Aside0.mk H
  clear H
  go_enter Try.func76, Try.ntmps76
  try go_wp2_with (first | ((with_reducible refine gate_dst (N := 1) rfl ?_); refine box_event ?hg (N := 1) ?hd (cs := #[.slice A0_0 l0_0.length c0_0, .slice A0_1 l0_1.length c0_1, .int .i64 a0_2, .bool a0_3]) (t := 25) ?hr ?_; (case hd => rfl); (case hg => rfl); (case hr => first | (go_simp; done) | (go_simp; rfl)); intro gb359 hg w3 hbox hb; have n0_ := Aside0.mk (below_step (by repeat (first | (with_reducible first | exact HB.out | apply below_alloc | apply pw_below_drewN | apply below_drew1) | exact HB.out)) hb); have n1_ := Aside0.mk (hbox); have n2_ := Aside0.mk ((by rw [hg]; exact (below_size (by repeat (first | (with_reducible first | exact HB.out | apply below_alloc | apply pw_below_drewN | apply below_drew1) | exact HB.out))) : w.heap.size ≤ gb359)); have n3_ := Aside0.mk ((by rw [hg]; exact (below_size (by repeat (first | (with_reducible first | exact HB.out | apply below_alloc | apply pw_below_drewN | apply below_drew1) | exact HB.out))) : w.heap.size ≤ gb359)); clear HB; have HB := n0_; have BK359 := n1_; have GW359 := n2_; have GE359 := n3_; clear n0_ n1_ n2_ n3_; clear hb hbox hg) | ((with_reducible refine gate_dst (N := 2) rfl ?_); refine box_event ?hg (N := 2) ?hd (cs := #[.slice none 0 0, .slice none 0 0, .int .i64 0, .bool false]) (t := 25) ?hr ?_; (case hd => rfl); (case hg => rfl); (case hr => first | (go_simp; done) | (go_simp; rfl)); intro gb360 hg w4 hbox hb; have n0_ := Aside0.mk (blk_below (g := gb359) (o := .cells #[.slice A0_0 l0_0.length c0_0, .slice A0_1 l0_1.length c0_1, .int .i64 a0_2, .bool a0_3] 25 (0, 0)) (by (with_reducible repeat (first | refine blk_drewN ?_ _ | refine blk_drew ?_ | refine blk_alloc ?_ _)); exact BK359.out) hb); have n1_ := Aside0.mk (below_step (by repeat (first | (with_reducible first | exact HB.out | apply below_alloc | apply pw_below_drewN | apply below_drew1 | refine below_set ?_ GE359.out) | exact HB.out)) hb); have n2_ := Aside0.mk (hbox); have n3_ := Aside0.mk ((by rw [hg]; exact (below_size (by repeat (first | (with_reducible first | exact HB.out | apply below_alloc | apply pw_below_drewN | apply below_drew1 | refine below_set ?_ GE359.out) | exact HB.out))) : w.heap.size ≤ gb360)); have n4_ := Aside0.mk ((by rw [hg]; exact (below_size (by repeat (first | (with_reducible first | exact HB.out | apply below_alloc | apply pw_below_drewN | apply below_drew1 | refine below_set ?_ GE359.out) | exact HB.out))) : w.heap.size ≤ gb360)); have n5_ := Aside0.mk ((by rw [hg]; exact Nat.ne_of_lt (blk_lt (g := gb359) (o := .cells #[.slice A0_0 l0_0.length c0_0, .slice A0_1 l0_1.length c0_1, .int .i64 a0_2, .bool a0_3] 25 (0, 0)) (by (with_reducible repeat (first | refine blk_drewN ?_ _ | refine blk_drew ?_ | refine blk_alloc ?_ _)); exact BK359.out)) : gb359 ≠ gb360)); have n6_ := Aside0.mk ((by rw [hg]; exact Nat.ne_of_gt (blk_lt (g := gb359) (o := .cells #[.slice A0_0 l0_0.length c0_0, .slice A0_1 l0_1.length c0_1, .int .i64 a0_2, .bool a0_3] 25 (0, 0)) (by (with_reducible repeat (first | refine blk_drewN ?_ _ | refine blk_drew ?_ | refine blk_alloc ?_ _)); exact BK359.out)) : gb360 ≠ gb359)); clear BK359; clear HB; have BK359 := n0_; have HB := n1_; have BK360 := n2_; have GW360 := n3_; have GE360 := n4_; have NB359_360 := n5_; have NB360_359 := n6_; clear n0_ n1_ n2_ n3_ n4_ n5_ n6_; clear hb hbox hg))
  have n0_ := Aside0.mk (blk_drew BK359.out)
  have n1_ := Aside0.mk (blk_drew BK360.out)
  have n2_ := Aside0.mk (below_drew1 HB.out)
  clear BK359
  clear BK360
  clear HB
  have BK359 := n0_
  have BK360 := n1_
  have HB := n2_
  clear n0_ n1_ n2_
  refine start_ (n := 11) (S := fun w' => w'.cell? ⟨gb359, 0, none⟩ = some (.slice A0_0 l0_0.length c0_0) ∧ w'.cell? ⟨gb359, 1, none⟩ = some (.slice A0_1 l0_1.length c0_1) ∧ w'.cell? ⟨gb359, 2, none⟩ = some (.int .i64 a0_2) ∧ w'.cell? ⟨gb359, 3, none⟩ = some (.bool a0_3)) (ds := []) #[false, false, false, false, false, false, false, false, false, false, false] (by kernel_rfl) rfl rfl ⟨(blk_cell BK359.out 0).trans rfl, (blk_cell BK359.out 1).trans rfl, (blk_cell BK359.out 2).trans rfl, (blk_cell BK359.out 3).trans rfl⟩ (fun hHeld => ?_); refine with_tabW spec_l1Copy.tab1 spec_l1Copy.bits1 (fun HT_ HW_ => ?_)
  generalize w4.drew = w5 at BK359 BK360 HB hHeld ⊢
  refine pure_ (i := 1) (N := some 6) (v := ?_) (a' := ?_) #[false, true, false, false, false, false, false, false, false, false, false] rfl rfl (any_of HT_.out (by kernel_rfl)) (fun _ _ _ h => h) (Or.inl ⟨by rfl, ?_⟩) ?_ ?_
  rotate_left
  · intro w'
    go_simp
    with_reducible rfl
  rotate_left
  · simp only [Act.put, List.setIfInBounds_toArray, List.set_cons_zero, List.set_cons_succ, i64_w, i32_w]
    rfl
  refine pure_ (i := 4) (N := some 9) (v := ?_) (a' := ?_) #[false, true, false, false, true, false, false, false, false, false, false] rfl rfl (any_of HT_.out (by kernel_rfl)) (fun _ _ _ h => h) (Or.inl ⟨by rfl, ?_⟩) ?_ ?_
  rotate_left
  · intro w'
    go_simp
    with_reducible rfl
  rotate_left
  · simp only [Act.put, List.setIfInBounds_toArray, List.set_cons_zero, List.set_cons_succ, i64_w, i32_w]
    rfl
  refine pure_ (i := 6) (N := some 11) (v := ?_) (a' := ?_) #[false, true, false, false, true, false, true, false, false, false, false] rfl rfl (any_of HT_.out (by kernel_rfl)) (fun _ _ _ h => h) (Or.inl ⟨by rfl, ?_⟩) ?_ ?_
  rotate_left
  · intro w'
    go_simp
    with_reducible rfl
  rotate_left
  · simp only [Act.put, List.setIfInBounds_toArray, List.set_cons_zero, List.set_cons_succ, i64_w, i32_w]
    rfl
  refine take_ (i := 2) (N := some 7) (v := ?_) (a' := ?_) #[false, true, true, false, true, false, true, false, false, false, false] rfl rfl (take_ofW HT_.out HW_.out (by kernel_rfl)) (fun _ _ _ h => h) (Or.inl ⟨by rfl, ?_⟩) hHeld ?_ ?_
  rotate_left
  · rintro w' ⟨s0, s1, s2, s3⟩
    go_simp
    with_reducible rfl
  rotate_left
  · simp only [Act.put, List.setIfInBounds_toArray, List.set_cons_zero, List.set_cons_succ, i64_w, i32_w]
    rfl
  refine take_ (i := 5) (N := some 10) (v := ?_) (a' := ?_) #[false, true, true, false, true, true, true, false, false, false, false] rfl rfl (take_ofW HT_.out HW_.out (by kernel_rfl)) (fun _ _ _ h => h) (Or.inl ⟨by rfl, ?_⟩) hHeld ?_ ?_
  rotate_left
  · rintro w' ⟨s0, s1, s2, s3⟩
    go_simp
    with_reducible rfl
  rotate_left
  · simp only [Act.put, List.setIfInBounds_toArray, List.set_cons_zero, List.set_cons_succ, i64_w, i32_w]
    rfl
  refine take_ (i := 7) (N := some 12) (v := ?_) (a' := ?_) #[false, true, true, false, true, true, true, true, false, false, false] rfl rfl (take_ofW HT_.out HW_.out (by kernel_rfl)) (fun _ _ _ h => h) (Or.inl ⟨by rfl, ?_⟩) hHeld ?_ ?_
  rotate_left
  · rintro w' ⟨s0, s1, s2, s3⟩
    go_simp
    with_reducible rfl
  rotate_left
  · simp only [Act.put, List.setIfInBounds_toArray, List.set_cons_zero, List.set_cons_succ, i64_w, i32_w]
    rfl
  refine join_ (σ := Value × Value × Nat) 1 #[true, true, true, true, true, true, true, true, true, true, false] (fun s_ => [(5, s_.1), (8, s_.2.1), (3, .pointer (some ⟨s_.2.2, 0, none⟩)), (13, .agg #[s_.2.1, .slice none 0 0, .int .i64 a0_2, .bool a0_3])]) (fun s_ w' => (w'.cell? ⟨gb359, 0, none⟩ = some (.slice A0_0 l0_0.length c0_0) ∧ w'.cell? ⟨gb359, 1, none⟩ = some (.slice A0_1 l0_1.length c0_1) ∧ w'.cell? ⟨gb359, 2, none⟩ = some (.int .i64 a0_2) ∧ w'.cell? ⟨gb359, 3, none⟩ = some (.bool a0_3)) ∧ (Kd.R (Kd.int .u8) 5 w' w.heap.size (fun _ => True) s_.2.1 y364) ∧ (w'.heap[gb359]? = some (.cells #[.slice A0_0 l0_0.length c0_0, .slice A0_1 l0_1.length c0_1, .int .i64 a0_2, .bool a0_3] 25 (0, 0))) ∧ (w'.heap[gb360]? = some (.cells #[.slice none 0 0, .slice none 0 0, .int .i64 0, .bool false] 25 (0, 0))) ∧ (w'.heap[s_.2.2]? = some (.cells #[.slice none 0 0, .slice none 0 0, .int .i64 0, .bool false] 25 (0, 0))) ∧ (w.heap.size ≤ s_.2.2) ∧ (w.heap.size ≤ s_.2.2) ∧ (gb359 ≠ s_.2.2) ∧ (s_.2.2 ≠ gb359) ∧ (gb360 ≠ s_.2.2) ∧ (s_.2.2 ≠ gb360) ∧ (Below w.heap.size w w')) ?_ ?_
  rotate_left
  · intro hCont
    refine two_ (i := 0) (j := 9) (Ni := some 5) (Nj := some 3) #[true, true, true, false, true, true, true, true, false, false, false] #[false, true, true, false, true, true, true, true, false, true, false] rfl rfl rfl rfl (two_of HT_.out (by kernel_rfl)) (by decide) (by decide) (fun K hK => ?_) (fun K hK => ?_)
    · skip
      refine Kd.R_lit_step (Kd.int .u8) _ 5 ?hg (N := 5) ?hd (xs := ([] : List Int)) (inner := []) (ok := fun _ => True) (okp := fun _ => True) ?hr ?hp (fun _ hk => hk) trivial (Below.refl _ _) (Nat.le_refl _) (by simp) ?_; (case hd => rfl); (case hg => rfl); (case hr => first | (go_simp; done) | (go_simp; rfl)); (case hp => exact (Reps.none _ _))
      intro v362 w6 ho7 hb hg_ hnew_
      clear hg_ hnew_
      (first | rw [← Ny361.out] at ho7 | (simp only [Int.reduceToNat] at ho7; rw [← Ny361.out] at ho7))
      have n0_ := Aside0.mk (Kd.R_lower ho7 (below_size (by repeat (first | (with_reducible first | exact HB.out | apply below_alloc | apply pw_below_drewN | apply below_drew1 | refine below_set ?_ GE359.out | refine below_set ?_ GE360.out) | exact HB.out))))
      have n1_ := Aside0.mk (blk_below (g := gb359) (o := .cells #[.slice A0_0 l0_0.length c0_0, .slice A0_1 l0_1.length c0_1, .int .i64 a0_2, .bool a0_3] 25 (0, 0)) (by (with_reducible repeat (first | refine blk_drewN ?_ _ | refine blk_drew ?_ | refine blk_alloc ?_ _)); exact BK359.out) hb)
      have n2_ := Aside0.mk (blk_below (g := gb360) (o := .cells #[.slice none 0 0, .slice none 0 0, .int .i64 0, .bool false] 25 (0, 0)) (by (with_reducible repeat (first | refine blk_drewN ?_ _ | refine blk_drew ?_ | refine blk_alloc ?_ _)); exact BK360.out) hb)
      have n3_ := Aside0.mk (below_step (by repeat (first | (with_reducible first | exact HB.out | apply below_alloc | apply pw_below_drewN | apply below_drew1 | refine below_set ?_ GE359.out | refine below_set ?_ GE360.out) | exact HB.out)) hb)
      clear BK359
      clear BK360
      clear HB
      have HO363 := n0_
      have BK359 := n1_
      have BK360 := n2_
      have HB := n3_
      clear n0_ n1_ n2_ n3_
      clear hb ho7
      refine hK.out _ _ ⟨(blk_cell BK359.out 0).trans rfl, (blk_cell BK359.out 1).trans rfl, (blk_cell BK359.out 2).trans rfl, (blk_cell BK359.out 3).trans rfl⟩ (fun hHeld => ?_)
      clear hK K
      refine norm_ (a' := ?_) ?_ ?_
      rotate_left
      · show Act.put _ (some 5) _ = _
        simp only [Act.put, List.setIfInBounds_toArray, List.set_cons_zero, List.set_cons_succ, i64_w, i32_w]
        rfl
      refine two_ (i := 3) (j := 9) (Ni := some 8) (Nj := some 3) #[true, true, true, true, true, true, true, true, false, false, false] #[true, true, true, false, true, true, true, true, false, true, false] rfl rfl rfl rfl (two_of HT_.out (by kernel_rfl)) (by decide) (by decide) (fun K hK => ?_) (fun K hK => ?_)
      · skip
        refine Kd.R_append_rows_step (Kd.int .u8) (w0 := w) w.heap.size (by rfl) (.tmp 5) (.tmp 7) 22 5 (.int .u8 0) 1 rfl Try.underlying22 info5 rfl (by decide) (by omega) v362 y361 l0_0 _ _ _ (fun _ => True) (fun _ => False) rfl rfl ?aO ?aR (fun _ _ h => h) (fun _ h => h.elim) ?aF ?aB ?aS ?aL ?_
        (case aR => repeat (first | exact (Kd.C_below HR0_0.out HB.out) | (with_reducible refine Kd.C_alloc ?_ _) | (with_reducible refine Kd.C_drewN ?_ _) | (with_reducible refine Kd.C_drew ?_)))
        (case aB => exact (by repeat (first | (with_reducible first | exact HB.out | apply below_alloc | apply pw_below_drewN | apply below_drew1 | refine below_set ?_ GE359.out | refine below_set ?_ GE360.out) | exact HB.out)))
        (case aF => exact (fun _ _ => trivial))
        (case aO => exact (by (with_reducible repeat (first | apply Kd.R_alloc | apply Kd.R_drewN | apply Kd.R_drew)); exact HO363.out))
        (case aS => exact (below_size (by repeat (first | (with_reducible first | exact HB.out | apply below_alloc | apply pw_below_drewN | apply below_drew1 | refine below_set ?_ GE359.out | refine below_set ?_ GE360.out) | exact HB.out))))
        (case aL => have := LMc2.out; omega)
        intro v365 w8 ho hb hg hat
        rw [← Ny364.out] at ho
        have n0_ := Aside0.mk (blk_grown (g := gb359) (o := .cells #[.slice A0_0 l0_0.length c0_0, .slice A0_1 l0_1.length c0_1, .int .i64 a0_2, .bool a0_3] 25 (0, 0)) (by (with_reducible repeat (first | refine blk_drewN ?_ _ | refine blk_drew ?_ | refine blk_alloc ?_ _)); exact BK359.out) hg (Kd.R_ne HO363.out BK359.out (by decide)))
        have n1_ := Aside0.mk (blk_grown (g := gb360) (o := .cells #[.slice none 0 0, .slice none 0 0, .int .i64 0, .bool false] 25 (0, 0)) (by (with_reducible repeat (first | refine blk_drewN ?_ _ | refine blk_drew ?_ | refine blk_alloc ?_ _)); exact BK360.out) hg (Kd.R_ne HO363.out BK360.out (by decide)))
        have n2_ := Aside0.mk (hb)
        have n3_ := Aside0.mk (ho)
        clear BK359
        clear BK360
        clear HB
        clear HO363
        have BK359 := n0_
        have BK360 := n1_
        have HB := n2_
        have HO366 := n3_
        clear n0_ n1_ n2_ n3_
        clear ho hb hg hat
        obtain ⟨Ao9, co9, eo9⟩ := Kd.R_slice HO366.out
        (first | subst eo9 | (injection eo9 with f1_ f2_ f3_; have f4_ := f1_.symm; have f5_ := f3_.symm; clear f1_ f2_ f3_; subst f4_; subst f5_))
        refine hK.out _ _ ⟨(blk_cell BK359.out 0).trans rfl, (blk_cell BK359.out 1).trans rfl, (blk_cell BK359.out 2).trans rfl, (blk_cell BK359.out 3).trans rfl⟩ (fun hHeld => ?_)
        clear hK K
        refine norm_ (a' := ?_) ?_ ?_
        rotate_left
        · show Act.put _ (some 8) _ = _
          simp only [Act.put, List.setIfInBounds_toArray, List.set_cons_zero, List.set_cons_succ, i64_w, i32_w]
          rfl
        refine pure_ (i := 8) (N := some 13) (v := ?_) (a' := ?_) #[true, true, true, true, true, true, true, true, true, false, false] rfl rfl (any_of HT_.out (by kernel_rfl)) (fun _ _ _ h => h) (Or.inl ⟨by rfl, ?_⟩) ?_ ?_
        rotate_left
        · intro w'
          go_simp
          with_reducible rfl
        rotate_left
        · simp only [Act.put, List.setIfInBounds_toArray, List.set_cons_zero, List.set_cons_succ, i64_w, i32_w]
          rfl
        refine one_ (i := 9) (N := some 3) #[true, true, true, true, true, true, true, true, true, true, false] rfl rfl (one_of HT_.out (by kernel_rfl)) (by decide) (fun K hK => ?_)
        refine box_step ?hg (N := 3) ?hd (cs := #[.slice none 0 0, .slice none 0 0, .int .i64 0, .bool false]) (t := 25) ?hr ?_; (case hd => rfl); (case hg => rfl); (case hr => first | (go_simp; done) | (go_simp; rfl))
        intro gb367 hg w10 hbox hb
        have n0_ := Aside0.mk (Kd.R_below (by (with_reducible repeat (first | apply Kd.R_alloc | apply Kd.R_drewN | apply Kd.R_drew)); exact HO366.out) hb)
        have n1_ := Aside0.mk (blk_below (g := gb359) (o := .cells #[.slice A0_0 l0_0.length c0_0, .slice A0_1 l0_1.length c0_1, .int .i64 a0_2, .bool a0_3] 25 (0, 0)) (by (with_reducible repeat (first | refine blk_drewN ?_ _ | refine blk_drew ?_ | refine blk_alloc ?_ _)); exact BK359.out) hb)
        have n2_ := Aside0.mk (blk_below (g := gb360) (o := .cells #[.slice none 0 0, .slice none 0 0, .int .i64 0, .bool false] 25 (0, 0)) (by (with_reducible repeat (first | refine blk_drewN ?_ _ | refine blk_drew ?_ | refine blk_alloc ?_ _)); exact BK360.out) hb)
        have n3_ := Aside0.mk (below_step (by repeat (first | (with_reducible first | exact HB.out | apply below_alloc | apply pw_below_drewN | apply below_drew1 | refine below_set ?_ GE359.out | refine below_set ?_ GE360.out) | exact HB.out)) hb)
        have n4_ := Aside0.mk (hbox)
        have n5_ := Aside0.mk ((by rw [hg]; exact (below_size (by repeat (first | (with_reducible first | exact HB.out | apply below_alloc | apply pw_below_drewN | apply below_drew1 | refine below_set ?_ GE359.out | refine below_set ?_ GE360.out) | exact HB.out))) : w.heap.size ≤ gb367))
        have n6_ := Aside0.mk ((by rw [hg]; exact (below_size (by repeat (first | (with_reducible first | exact HB.out | apply below_alloc | apply pw_below_drewN | apply below_drew1 | refine below_set ?_ GE359.out | refine below_set ?_ GE360.out) | exact HB.out))) : w.heap.size ≤ gb367))
        have n7_ := Aside0.mk ((by rw [hg]; exact Nat.ne_of_lt (blk_lt (g := gb359) (o := .cells #[.slice A0_0 l0_0.length c0_0, .slice A0_1 l0_1.length c0_1, .int .i64 a0_2, .bool a0_3] 25 (0, 0)) (by (with_reducible repeat (first | refine blk_drewN ?_ _ | refine blk_drew ?_ | refine blk_alloc ?_ _)); exact BK359.out)) : gb359 ≠ gb367))
        have n8_ := Aside0.mk ((by rw [hg]; exact Nat.ne_of_gt (blk_lt (g := gb359) (o := .cells #[.slice A0_0 l0_0.length c0_0, .slice A0_1 l0_1.length c0_1, .int .i64 a0_2, .bool a0_3] 25 (0, 0)) (by (with_reducible repeat (first | refine blk_drewN ?_ _ | refine blk_drew ?_ | refine blk_alloc ?_ _)); exact BK359.out)) : gb367 ≠ gb359))
        have n9_ := Aside0.mk ((by rw [hg]; exact Nat.ne_of_lt (blk_lt (g := gb360) (o := .cells #[.slice none 0 0, .slice none 0 0, .int .i64 0, .bool false] 25 (0, 0)) (by (with_reducible repeat (first | refine blk_drewN ?_ _ | refine blk_drew ?_ | refine blk_alloc ?_ _)); exact BK360.out)) : gb360 ≠ gb367))
        have n10_ := Aside0.mk ((by rw [hg]; exact Nat.ne_of_gt (blk_lt (g := gb360) (o := .cells #[.slice none 0 0, .slice none 0 0, .int .i64 0, .bool false] 25 (0, 0)) (by (with_reducible repeat (first | refine blk_drewN ?_ _ | refine blk_drew ?_ | refine blk_alloc ?_ _)); exact BK360.out)) : gb367 ≠ gb360))
        clear HO366
        clear BK359
        clear BK360
        clear HB
        have HO366 := n0_
        have BK359 := n1_
        have BK360 := n2_
        have HB := n3_
        have BK367 := n4_
        have GW367 := n5_
        have GE367 := n6_
        have NB359_367 := n7_
        have NB367_359 := n8_
        have NB360_367 := n9_
        have NB367_360 := n10_
        clear n0_ n1_ n2_ n3_ n4_ n5_ n6_ n7_ n8_ n9_ n10_
        clear hb hbox hg
        refine hK.out _ _ ⟨(blk_cell BK359.out 0).trans rfl, (blk_cell BK359.out 1).trans rfl, (blk_cell BK359.out 2).trans rfl, (blk_cell BK359.out 3).trans rfl⟩ (fun hHeld => ?_)
        clear hK K
        refine norm_ (a' := ?_) ?_ ?_
        rotate_left
        · show Act.put _ (some 3) _ = _
          simp only [Act.put, List.setIfInBounds_toArray, List.set_cons_zero, List.set_cons_succ, i64_w, i32_w]
          rfl
        exact norm_ (by simp only [putAll, Act.put, List.setIfInBounds_toArray, List.set_cons_zero, List.set_cons_succ]) (hCont (v362, .slice Ao9 y364.length co9, gb367) _ ⟨hHeld, (by (with_reducible repeat (first | apply Kd.R_alloc | apply Kd.R_drewN | apply Kd.R_drew)); exact HO366.out), (by (with_reducible repeat (first | refine blk_drewN ?_ _ | refine blk_drew ?_ | refine blk_alloc ?_ _)); exact BK359.out), (by (with_reducible repeat (first | refine blk_drewN ?_ _ | refine blk_drew ?_ | refine blk_alloc ?_ _)); exact BK360.out), (by (with_reducible repeat (first | refine blk_drewN ?_ _ | refine blk_drew ?_ | refine blk_alloc ?_ _)); exact BK367.out), GW367.out, GE367.out, NB359_367.out, NB367_359.out, NB360_367.out, NB367_360.out, (by repeat (first | (with_reducible first | exact HB.out | apply below_alloc | apply pw_below_drewN | apply below_drew1 | refine below_set ?_ GE359.out | refine below_set ?_ GE360.out | refine below_set ?_ GE367.out) | exact HB.out))⟩)
      · skip
        refine box_step ?hg (N := 3) ?hd (cs := #[.slice none 0 0, .slice none 0 0, .int .i64 0, .bool false]) (t := 25) ?hr ?_; (case hd => rfl); (case hg => rfl); (case hr => first | (go_simp; done) | (go_simp; rfl))
        intro gb367 hg w8 hbox hb
        have n0_ := Aside0.mk (Kd.R_below (by (with_reducible repeat (first | apply Kd.R_alloc | apply Kd.R_drewN | apply Kd.R_drew)); exact HO363.out) hb)
        have n1_ := Aside0.mk (blk_below (g := gb359) (o := .cells #[.slice A0_0 l0_0.length c0_0, .slice A0_1 l0_1.length c0_1, .int .i64 a0_2, .bool a0_3] 25 (0, 0)) (by (with_reducible repeat (first | refine blk_drewN ?_ _ | refine blk_drew ?_ | refine blk_alloc ?_ _)); exact BK359.out) hb)
        have n2_ := Aside0.mk (blk_below (g := gb360) (o := .cells #[.slice none 0 0, .slice none 0 0, .int .i64 0, .bool false] 25 (0, 0)) (by (with_reducible repeat (first | refine blk_drewN ?_ _ | refine blk_drew ?_ | refine blk_alloc ?_ _)); exact BK360.out) hb)
        have n3_ := Aside0.mk (below_step (by repeat (first | (with_reducible first | exact HB.out | apply below_alloc | apply pw_below_drewN | apply below_drew1 | refine below_set ?_ GE359.out | refine below_set ?_ GE360.out) | exact HB.out)) hb)
        have n4_ := Aside0.mk (hbox)
        have n5_ := Aside0.mk ((by rw [hg]; exact (below_size (by repeat (first | (with_reducible first | exact HB.out | apply below_alloc | apply pw_below_drewN | apply below_drew1 | refine below_set ?_ GE359.out | refine below_set ?_ GE360.out) | exact HB.out))) : w.heap.size ≤ gb367))
        have n6_ := Aside0.mk ((by rw [hg]; exact (below_size (by repeat (first | (with_reducible first | exact HB.out | apply below_alloc | apply pw_below_drewN | apply below_drew1 | refine below_set ?_ GE359.out | refine below_set ?_ GE360.out) | exact HB.out))) : w.heap.size ≤ gb367))
        have n7_ := Aside0.mk ((by rw [hg]; exact Nat.ne_of_lt (blk_lt (g := gb359) (o := .cells #[.slice A0_0 l0_0.length c0_0, .slice A0_1 l0_1.length c0_1, .int .i64 a0_2, .bool a0_3] 25 (0, 0)) (by (with_reducible repeat (first | refine blk_drewN ?_ _ | refine blk_drew ?_ | refine blk_alloc ?_ _)); exact BK359.out)) : gb359 ≠ gb367))
        have n8_ := Aside0.mk ((by rw [hg]; exact Nat.ne_of_gt (blk_lt (g := gb359) (o := .cells #[.slice A0_0 l0_0.length c0_0, .slice A0_1 l0_1.length c0_1, .int .i64 a0_2, .bool a0_3] 25 (0, 0)) (by (with_reducible repeat (first | refine blk_drewN ?_ _ | refine blk_drew ?_ | refine blk_alloc ?_ _)); exact BK359.out)) : gb367 ≠ gb359))
        have n9_ := Aside0.mk ((by rw [hg]; exact Nat.ne_of_lt (blk_lt (g := gb360) (o := .cells #[.slice none 0 0, .slice none 0 0, .int .i64 0, .bool false] 25 (0, 0)) (by (with_reducible repeat (first | refine blk_drewN ?_ _ | refine blk_drew ?_ | refine blk_alloc ?_ _)); exact BK360.out)) : gb360 ≠ gb367))
        have n10_ := Aside0.mk ((by rw [hg]; exact Nat.ne_of_gt (blk_lt (g := gb360) (o := .cells #[.slice none 0 0, .slice none 0 0, .int .i64 0, .bool false] 25 (0, 0)) (by (with_reducible repeat (first | refine blk_drewN ?_ _ | refine blk_drew ?_ | refine blk_alloc ?_ _)); exact BK360.out)) : gb367 ≠ gb360))
        clear HO363
        clear BK359
        clear BK360
        clear HB
        have HO363 := n0_
        have BK359 := n1_
        have BK360 := n2_
        have HB := n3_
        have BK367 := n4_
        have GW367 := n5_
        have GE367 := n6_
        have NB359_367 := n7_
        have NB367_359 := n8_
        have NB360_367 := n9_
        have NB367_360 := n10_
        clear n0_ n1_ n2_ n3_ n4_ n5_ n6_ n7_ n8_ n9_ n10_
        clear hb hbox hg
        refine hK.out _ _ ⟨(blk_cell BK359.out 0).trans rfl, (blk_cell BK359.out 1).trans rfl, (blk_cell BK359.out 2).trans rfl, (blk_cell BK359.out 3).trans rfl⟩ (fun hHeld => ?_)
        clear hK K
        refine norm_ (a' := ?_) ?_ ?_
        rotate_left
        · show Act.put _ (some 3) _ = _
          simp only [Act.put, List.setIfInBounds_toArray, List.set_cons_zero, List.set_cons_succ, i64_w, i32_w]
          rfl
        refine one_ (i := 3) (N := some 8) #[true, true, true, true, true, true, true, true, false, true, false] rfl rfl (one_of HT_.out (by kernel_rfl)) (by decide) (fun K hK => ?_)
        refine Kd.R_append_rows_step (Kd.int .u8) (w0 := w) w.heap.size (by rfl) (.tmp 5) (.tmp 7) 22 5 (.int .u8 0) 1 rfl Try.underlying22 info5 rfl (by decide) (by omega) v362 y361 l0_0 _ _ _ (fun _ => True) (fun _ => False) rfl rfl ?aO ?aR (fun _ _ h => h) (fun _ h => h.elim) ?aF ?aB ?aS ?aL ?_
        (case aR => repeat (first | exact (Kd.C_below HR0_0.out HB.out) | (with_reducible refine Kd.C_alloc ?_ _) | (with_reducible refine Kd.C_drewN ?_ _) | (with_reducible refine Kd.C_drew ?_)))
        (case aB => exact (by repeat (first | (with_reducible first | exact HB.out | apply below_alloc | apply pw_below_drewN | apply below_drew1 | refine below_set ?_ GE359.out | refine below_set ?_ GE360.out | refine below_set ?_ GE367.out) | exact HB.out)))
        (case aF => exact (fun _ _ => trivial))
        (case aO => exact (by (with_reducible repeat (first | apply Kd.R_alloc | apply Kd.R_drewN | apply Kd.R_drew)); exact HO363.out))
        (case aS => exact (below_size (by repeat (first | (with_reducible first | exact HB.out | apply below_alloc | apply pw_below_drewN | apply below_drew1 | refine below_set ?_ GE359.out | refine below_set ?_ GE360.out | refine below_set ?_ GE367.out) | exact HB.out))))
        (case aL => have := LMc2.out; omega)
        intro v365 w9 ho hb hg hat
        rw [← Ny364.out] at ho
        have n0_ := Aside0.mk (blk_grown (g := gb359) (o := .cells #[.slice A0_0 l0_0.length c0_0, .slice A0_1 l0_1.length c0_1, .int .i64 a0_2, .bool a0_3] 25 (0, 0)) (by (with_reducible repeat (first | refine blk_drewN ?_ _ | refine blk_drew ?_ | refine blk_alloc ?_ _)); exact BK359.out) hg (Kd.R_ne HO363.out BK359.out (by decide)))
        have n1_ := Aside0.mk (blk_grown (g := gb360) (o := .cells #[.slice none 0 0, .slice none 0 0, .int .i64 0, .bool false] 25 (0, 0)) (by (with_reducible repeat (first | refine blk_drewN ?_ _ | refine blk_drew ?_ | refine blk_alloc ?_ _)); exact BK360.out) hg (Kd.R_ne HO363.out BK360.out (by decide)))
        have n2_ := Aside0.mk (blk_grown (g := gb367) (o := .cells #[.slice none 0 0, .slice none 0 0, .int .i64 0, .bool false] 25 (0, 0)) (by (with_reducible repeat (first | refine blk_drewN ?_ _ | refine blk_drew ?_ | refine blk_alloc ?_ _)); exact BK367.out) hg (Kd.R_ne HO363.out BK367.out (by decide)))
        have n3_ := Aside0.mk (hb)
        have n4_ := Aside0.mk (ho)
        clear BK359
        clear BK360
        clear BK367
        clear HB
        clear HO363
        have BK359 := n0_
        have BK360 := n1_
        have BK367 := n2_
        have HB := n3_
        have HO366 := n4_
        clear n0_ n1_ n2_ n3_ n4_
        clear ho hb hg hat
        obtain ⟨Ao10, co10, eo10⟩ := Kd.R_slice HO366.out
        (first | subst eo10 | (injection eo10 with f1_ f2_ f3_; have f4_ := f1_.symm; have f5_ := f3_.symm; clear f1_ f2_ f3_; subst f4_; subst f5_))
        refine hK.out _ _ ⟨(blk_cell BK359.out 0).trans rfl, (blk_cell BK359.out 1).trans rfl, (blk_cell BK359.out 2).trans rfl, (blk_cell BK359.out 3).trans rfl⟩ (fun hHeld => ?_)
        clear hK K
        refine norm_ (a' := ?_) ?_ ?_
        rotate_left
        · show Act.put _ (some 8) _ = _
          simp only [Act.put, List.setIfInBounds_toArray, List.set_cons_zero, List.set_cons_succ, i64_w, i32_w]
          rfl
        refine pure_ (i := 8) (N := some 13) (v := ?_) (a' := ?_) #[true, true, true, true, true, true, true, true, true, true, false] rfl rfl (any_of HT_.out (by kernel_rfl)) (fun _ _ _ h => h) (Or.inl ⟨by rfl, ?_⟩) ?_ ?_
        rotate_left
        · intro w'
          go_simp
          with_reducible rfl
        rotate_left
        · simp only [Act.put, List.setIfInBounds_toArray, List.set_cons_zero, List.set_cons_succ, i64_w, i32_w]
          rfl
        exact norm_ (by simp only [putAll, Act.put, List.setIfInBounds_toArray, List.set_cons_zero, List.set_cons_succ]) (hCont (v362, .slice Ao10 y364.length co10, gb367) _ ⟨hHeld, (by (with_reducible repeat (first | apply Kd.R_alloc | apply Kd.R_drewN | apply Kd.R_drew)); exact HO366.out), (by (with_reducible repeat (first | refine blk_drewN ?_ _ | refine blk_drew ?_ | refine blk_alloc ?_ _)); exact BK359.out), (by (with_reducible repeat (first | refine blk_drewN ?_ _ | refine blk_drew ?_ | refine blk_alloc ?_ _)); exact BK360.out), (by (with_reducible repeat (first | refine blk_drewN ?_ _ | refine blk_drew ?_ | refine blk_alloc ?_ _)); exact BK367.out), GW367.out, GE367.out, NB359_367.out, NB367_359.out, NB360_367.out, NB367_360.out, (by repeat (first | (with_reducible first | exact HB.out | apply below_alloc | apply pw_below_drewN | apply below_drew1 | refine below_set ?_ GE359.out | refine below_set ?_ GE360.out | refine below_set ?_ GE367.out) | exact HB.out))⟩)
    · skip
      refine box_step ?hg (N := 3) ?hd (cs := #[.slice none 0 0, .slice none 0 0, .int .i64 0, .bool false]) (t := 25) ?hr ?_; (case hd => rfl); (case hg => rfl); (case hr => first | (go_simp; done) | (go_simp; rfl))
      intro gb367 hg w6 hbox hb
      have n0_ := Aside0.mk (blk_below (g := gb359) (o := .cells #[.slice A0_0 l0_0.length c0_0, .slice A0_1 l0_1.length c0_1, .int .i64 a0_2, .bool a0_3] 25 (0, 0)) (by (with_reducible repeat (first | refine blk_drewN ?_ _ | refine blk_drew ?_ | refine blk_alloc ?_ _)); exact BK359.out) hb)
      have n1_ := Aside0.mk (blk_below (g := gb360) (o := .cells #[.slice none 0 0, .slice none 0 0, .int .i64 0, .bool false] 25 (0, 0)) (by (with_reducible repeat (first | refine blk_drewN ?_ _ | refine blk_drew ?_ | refine blk_alloc ?_ _)); exact BK360.out) hb)
      have n2_ := Aside0.mk (below_step (by repeat (first | (with_reducible first | exact HB.out | apply below_alloc | apply pw_below_drewN | apply below_drew1 | refine below_set ?_ GE359.out | refine below_set ?_ GE360.out) | exact HB.out)) hb)
      have n3_ := Aside0.mk (hbox)
      have n4_ := Aside0.mk ((by rw [hg]; exact (below_size (by repeat (first | (with_reducible first | exact HB.out | apply below_alloc | apply pw_below_drewN | apply below_drew1 | refine below_set ?_ GE359.out | refine below_set ?_ GE360.out) | exact HB.out))) : w.heap.size ≤ gb367))
      have n5_ := Aside0.mk ((by rw [hg]; exact (below_size (by repeat (first | (with_reducible first | exact HB.out | apply below_alloc | apply pw_below_drewN | apply below_drew1 | refine below_set ?_ GE359.out | refine below_set ?_ GE360.out) | exact HB.out))) : w.heap.size ≤ gb367))
      have n6_ := Aside0.mk ((by rw [hg]; exact Nat.ne_of_lt (blk_lt (g := gb359) (o := .cells #[.slice A0_0 l0_0.length c0_0, .slice A0_1 l0_1.length c0_1, .int .i64 a0_2, .bool a0_3] 25 (0, 0)) (by (with_reducible repeat (first | refine blk_drewN ?_ _ | refine blk_drew ?_ | refine blk_alloc ?_ _)); exact BK359.out)) : gb359 ≠ gb367))
      have n7_ := Aside0.mk ((by rw [hg]; exact Nat.ne_of_gt (blk_lt (g := gb359) (o := .cells #[.slice A0_0 l0_0.length c0_0, .slice A0_1 l0_1.length c0_1, .int .i64 a0_2, .bool a0_3] 25 (0, 0)) (by (with_reducible repeat (first | refine blk_drewN ?_ _ | refine blk_drew ?_ | refine blk_alloc ?_ _)); exact BK359.out)) : gb367 ≠ gb359))
      have n8_ := Aside0.mk ((by rw [hg]; exact Nat.ne_of_lt (blk_lt (g := gb360) (o := .cells #[.slice none 0 0, .slice none 0 0, .int .i64 0, .bool false] 25 (0, 0)) (by (with_reducible repeat (first | refine blk_drewN ?_ _ | refine blk_drew ?_ | refine blk_alloc ?_ _)); exact BK360.out)) : gb360 ≠ gb367))
      have n9_ := Aside0.mk ((by rw [hg]; exact Nat.ne_of_gt (blk_lt (g := gb360) (o := .cells #[.slice none 0 0, .slice none 0 0, .int .i64 0, .bool false] 25 (0, 0)) (by (with_reducible repeat (first | refine blk_drewN ?_ _ | refine blk_drew ?_ | refine blk_alloc ?_ _)); exact BK360.out)) : gb367 ≠ gb360))
      clear BK359
      clear BK360
      clear HB
      have BK359 := n0_
      have BK360 := n1_
      have HB := n2_
      have BK367 := n3_
      have GW367 := n4_
      have GE367 := n5_
      have NB359_367 := n6_
      have NB367_359 := n7_
      have NB360_367 := n8_
      have NB367_360 := n9_
      clear n0_ n1_ n2_ n3_ n4_ n5_ n6_ n7_ n8_ n9_
      clear hb hbox hg
      refine hK.out _ _ ⟨(blk_cell BK359.out 0).trans rfl, (blk_cell BK359.out 1).trans rfl, (blk_cell BK359.out 2).trans rfl, (blk_cell BK359.out 3).trans rfl⟩ (fun hHeld => ?_)
      clear hK K
      refine norm_ (a' := ?_) ?_ ?_
      rotate_left
      · show Act.put _ (some 3) _ = _
        simp only [Act.put, List.setIfInBounds_toArray, List.set_cons_zero, List.set_cons_succ, i64_w, i32_w]
        rfl
      refine one_ (i := 0) (N := some 5) #[true, true, true, false, true, true, true, true, false, true, false] rfl rfl (one_of HT_.out (by kernel_rfl)) (by decide) (fun K hK => ?_)
      refine Kd.R_lit_step (Kd.int .u8) _ 5 ?hg (N := 5) ?hd (xs := ([] : List Int)) (inner := []) (ok := fun _ => True) (okp := fun _ => True) ?hr ?hp (fun _ hk => hk) trivial (Below.refl _ _) (Nat.le_refl _) (by simp) ?_; (case hd => rfl); (case hg => rfl); (case hr => first | (go_simp; done) | (go_simp; rfl)); (case hp => exact (Reps.none _ _))
      intro v362 w7 ho8 hb hg_ hnew_
      clear hg_ hnew_
      (first | rw [← Ny361.out] at ho8 | (simp only [Int.reduceToNat] at ho8; rw [← Ny361.out] at ho8))
      have n0_ := Aside0.mk (Kd.R_lower ho8 (below_size (by repeat (first | (with_reducible first | exact HB.out | apply below_alloc | apply pw_below_drewN | apply below_drew1 | refine below_set ?_ GE359.out | refine below_set ?_ GE360.out | refine below_set ?_ GE367.out) | exact HB.out))))
      have n1_ := Aside0.mk (blk_below (g := gb359) (o := .cells #[.slice A0_0 l0_0.length c0_0, .slice A0_1 l0_1.length c0_1, .int .i64 a0_2, .bool a0_3] 25 (0, 0)) (by (with_reducible repeat (first | refine blk_drewN ?_ _ | refine blk_drew ?_ | refine blk_alloc ?_ _)); exact BK359.out) hb)
      have n2_ := Aside0.mk (blk_below (g := gb360) (o := .cells #[.slice none 0 0, .slice none 0 0, .int .i64 0, .bool false] 25 (0, 0)) (by (with_reducible repeat (first | refine blk_drewN ?_ _ | refine blk_drew ?_ | refine blk_alloc ?_ _)); exact BK360.out) hb)
      have n3_ := Aside0.mk (blk_below (g := gb367) (o := .cells #[.slice none 0 0, .slice none 0 0, .int .i64 0, .bool false] 25 (0, 0)) (by (with_reducible repeat (first | refine blk_drewN ?_ _ | refine blk_drew ?_ | refine blk_alloc ?_ _)); exact BK367.out) hb)
      have n4_ := Aside0.mk (below_step (by repeat (first | (with_reducible first | exact HB.out | apply below_alloc | apply pw_below_drewN | apply below_drew1 | refine below_set ?_ GE359.out | refine below_set ?_ GE360.out | refine below_set ?_ GE367.out) | exact HB.out)) hb)
      clear BK359
      clear BK360
      clear BK367
      clear HB
      have HO363 := n0_
      have BK359 := n1_
      have BK360 := n2_
      have BK367 := n3_
      have HB := n4_
      clear n0_ n1_ n2_ n3_ n4_
      clear hb ho8
      refine hK.out _ _ ⟨(blk_cell BK359.out 0).trans rfl, (blk_cell BK359.out 1).trans rfl, (blk_cell BK359.out 2).trans rfl, (blk_cell BK359.out 3).trans rfl⟩ (fun hHeld => ?_)
      clear hK K
      refine norm_ (a' := ?_) ?_ ?_
      rotate_left
      · show Act.put _ (some 5) _ = _
        simp only [Act.put, List.setIfInBounds_toArray, List.set_cons_zero, List.set_cons_succ, i64_w, i32_w]
        rfl
      refine one_ (i := 3) (N := some 8) #[true, true, true, true, true, true, true, true, false, true, false] rfl rfl (one_of HT_.out (by kernel_rfl)) (by decide) (fun K hK => ?_)
      refine Kd.R_append_rows_step (Kd.int .u8) (w0 := w) w.heap.size (by rfl) (.tmp 5) (.tmp 7) 22 5 (.int .u8 0) 1 rfl Try.underlying22 info5 rfl (by decide) (by omega) v362 y361 l0_0 _ _ _ (fun _ => True) (fun _ => False) rfl rfl ?aO ?aR (fun _ _ h => h) (fun _ h => h.elim) ?aF ?aB ?aS ?aL ?_
      (case aR => repeat (first | exact (Kd.C_below HR0_0.out HB.out) | (with_reducible refine Kd.C_alloc ?_ _) | (with_reducible refine Kd.C_drewN ?_ _) | (with_reducible refine Kd.C_drew ?_)))
      (case aB => exact (by repeat (first | (with_reducible first | exact HB.out | apply below_alloc | apply pw_below_drewN | apply below_drew1 | refine below_set ?_ GE359.out | refine below_set ?_ GE360.out | refine below_set ?_ GE367.out) | exact HB.out)))
      (case aF => exact (fun _ _ => trivial))
      (case aO => exact (by (with_reducible repeat (first | apply Kd.R_alloc | apply Kd.R_drewN | apply Kd.R_drew)); exact HO363.out))
      (case aS => exact (below_size (by repeat (first | (with_reducible first | exact HB.out | apply below_alloc | apply pw_below_drewN | apply below_drew1 | refine below_set ?_ GE359.out | refine below_set ?_ GE360.out | refine below_set ?_ GE367.out) | exact HB.out))))
      (case aL => have := LMc2.out; omega)
      intro v365 w9 ho hb hg hat
      rw [← Ny364.out] at ho
      have n0_ := Aside0.mk (blk_grown (g := gb359) (o := .cells #[.slice A0_0 l0_0.length c0_0, .slice A0_1 l0_1.length c0_1, .int .i64 a0_2, .bool a0_3] 25 (0, 0)) (by (with_reducible repeat (first | refine blk_drewN ?_ _ | refine blk_drew ?_ | refine blk_alloc ?_ _)); exact BK359.out) hg (Kd.R_ne HO363.out BK359.out (by decide)))
      have n1_ := Aside0.mk (blk_grown (g := gb360) (o := .cells #[.slice none 0 0, .slice none 0 0, .int .i64 0, .bool false] 25 (0, 0)) (by (with_reducible repeat (first | refine blk_drewN ?_ _ | refine blk_drew ?_ | refine blk_alloc ?_ _)); exact BK360.out) hg (Kd.R_ne HO363.out BK360.out (by decide)))
      have n2_ := Aside0.mk (blk_grown (g := gb367) (o := .cells #[.slice none 0 0, .slice none 0 0, .int .i64 0, .bool false] 25 (0, 0)) (by (with_reducible repeat (first | refine blk_drewN ?_ _ | refine blk_drew ?_ | refine blk_alloc ?_ _)); exact BK367.out) hg (Kd.R_ne HO363.out BK367.out (by decide)))
      have n3_ := Aside0.mk (hb)
      have n4_ := Aside0.mk (ho)
      clear BK359
      clear BK360
      clear BK367
      clear HB
      clear HO363
      have BK359 := n0_
      have BK360 := n1_
      have BK367 := n2_
      have HB := n3_
      have HO366 := n4_
      clear n0_ n1_ n2_ n3_ n4_
      clear ho hb hg hat
      obtain ⟨Ao10, co10, eo10⟩ := Kd.R_slice HO366.out
      (first | subst eo10 | (injection eo10 with f1_ f2_ f3_; have f4_ := f1_.symm; have f5_ := f3_.symm; clear f1_ f2_ f3_; subst f4_; subst f5_))
      refine hK.out _ _ ⟨(blk_cell BK359.out 0).trans rfl, (blk_cell BK359.out 1).trans rfl, (blk_cell BK359.out 2).trans rfl, (blk_cell BK359.out 3).trans rfl⟩ (fun hHeld => ?_)
      clear hK K
      refine norm_ (a' := ?_) ?_ ?_
      rotate_left
      · show Act.put _ (some 8) _ = _
        simp only [Act.put, List.setIfInBounds_toArray, List.set_cons_zero, List.set_cons_succ, i64_w, i32_w]
        rfl
      refine pure_ (i := 8) (N := some 13) (v := ?_) (a' := ?_) #[true, true, true, true, true, true, true, true, true, true, false] rfl rfl (any_of HT_.out (by kernel_rfl)) (fun _ _ _ h => h) (Or.inl ⟨by rfl, ?_⟩) ?_ ?_
      rotate_left
      · intro w'
        go_simp
        with_reducible rfl
      rotate_left
      · simp only [Act.put, List.setIfInBounds_toArray, List.set_cons_zero, List.set_cons_succ, i64_w, i32_w]
        rfl
      exact norm_ (by simp only [putAll, Act.put, List.setIfInBounds_toArray, List.set_cons_zero, List.set_cons_succ]) (hCont (v362, .slice Ao10 y364.length co10, gb367) _ ⟨hHeld, (by (with_reducible repeat (first | apply Kd.R_alloc | apply Kd.R_drewN | apply Kd.R_drew)); exact HO366.out), (by (with_reducible repeat (first | refine blk_drewN ?_ _ | refine blk_drew ?_ | refine blk_alloc ?_ _)); exact BK359.out), (by (with_reducible repeat (first | refine blk_drewN ?_ _ | refine blk_drew ?_ | refine blk_alloc ?_ _)); exact BK360.out), (by (with_reducible repeat (first | refine blk_drewN ?_ _ | refine blk_drew ?_ | refine blk_alloc ?_ _)); exact BK367.out), GW367.out, GE367.out, NB359_367.out, NB367_359.out, NB360_367.out, NB367_360.out, (by repeat (first | (with_reducible first | exact HB.out | apply below_alloc | apply pw_below_drewN | apply below_drew1 | refine below_set ?_ GE359.out | refine below_set ?_ GE360.out | refine below_set ?_ GE367.out) | exact HB.out))⟩)
  rintro ⟨v362, v365, gb367⟩ w11 ⟨hS_, h0_, h1_, h2_, h3_, h4_, h5_, h6_, h7_, h8_, h9_, h10_⟩
  have n0_ : Aside0 (Kd.R (Kd.int .u8) 5 w11 w.heap.size (fun _ => True) v365 y364) := ⟨h0_⟩
  have n1_ : Aside0 (w11.heap[gb359]? = some (.cells #[.slice A0_0 l0_0.length c0_0, .slice A0_1 l0_1.length c0_1, .int .i64 a0_2, .bool a0_3] 25 (0, 0))) := ⟨h1_⟩
  have n2_ : Aside0 (w11.heap[gb360]? = some (.cells #[.slice none 0 0, .slice none 0 0, .int .i64 0, .bool false] 25 (0, 0))) := ⟨h2_⟩
  have n3_ : Aside0 (w11.heap[gb367]? = some (.cells #[.slice none 0 0, .slice none 0 0, .int .i64 0, .bool false] 25 (0, 0))) := ⟨h3_⟩
  have n4_ : Aside0 (w.heap.size ≤ gb367) := ⟨h4_⟩
  have n5_ : Aside0 (w.heap.size ≤ gb367) := ⟨h5_⟩
  have n6_ : Aside0 (gb359 ≠ gb367) := ⟨h6_⟩
  have n7_ : Aside0 (gb367 ≠ gb359) := ⟨h7_⟩
  have n8_ : Aside0 (gb360 ≠ gb367) := ⟨h8_⟩
  have n9_ : Aside0 (gb367 ≠ gb360) := ⟨h9_⟩
  have n10_ : Aside0 (Below w.heap.size w w11) := ⟨h10_⟩
  clear BK359
  clear BK360
  clear HB
  clear h0_ h1_ h2_ h3_ h4_ h5_ h6_ h7_ h8_ h9_ h10_
  have HO366 := n0_
  have BK359 := n1_
  have BK360 := n2_
  have BK367 := n3_
  have GW367 := n4_
  have GE367 := n5_
  have NB359_367 := n6_
  have NB367_359 := n7_
  have NB360_367 := n8_
  have NB367_360 := n9_
  have HB := n10_
  clear n0_ n1_ n2_ n3_ n4_ n5_ n6_ n7_ n8_ n9_ n10_
  have hHeld : w11.cell? ⟨gb359, 0, none⟩ = some (.slice A0_0 l0_0.length c0_0) ∧ w11.cell? ⟨gb359, 1, none⟩ = some (.slice A0_1 l0_1.length c0_1) ∧ w11.cell? ⟨gb359, 2, none⟩ = some (.int .i64 a0_2) ∧ w11.cell? ⟨gb359, 3, none⟩ = some (.bool a0_3) := hS_
  obtain ⟨Ao12, co12, eo12⟩ := Kd.R_slice HO366.out
  (first | subst eo12 | (injection eo12 with f1_ f2_ f3_; have f4_ := f1_.symm; have f5_ := f3_.symm; clear f1_ f2_ f3_; subst f4_; subst f5_))
  refine norm_ (a' := ?_) ?_ ?_
  rotate_left
  · simp only [putAll, Act.put, List.setIfInBounds_toArray, List.set_cons_zero, List.set_cons_succ]
    rfl
  refine one_ (i := 10) (N := none) #[true, true, true, true, true, true, true, true, true, true, true] rfl rfl (one_of HT_.out (by kernel_rfl)) (by decide) (fun K hK => ?_)
  have hs13 : w11.cell? ⟨gb367, 0, none⟩ = some (.slice none 0 0) := (blk_cell BK367.out 0).trans rfl
  have hfs13 := blk_frozen BK367.out 0
  have hns13_0 := NB359_367.out
  have hns13_1 := NB360_367.out
  have hms13_0 := NB367_359.out
  have hms13_1 := NB367_360.out
  have hs14 : w11.cell? ⟨gb367, 1, none⟩ = some (.slice none 0 0) := (blk_cell BK367.out 1).trans rfl
  have hfs14 := blk_frozen BK367.out 1
  have hns14_0 := NB359_367.out
  have hns14_1 := NB360_367.out
  have hms14_0 := NB367_359.out
  have hms14_1 := NB367_360.out
  have hs15 : w11.cell? ⟨gb367, 2, none⟩ = some (.int .i64 0) := (blk_cell BK367.out 2).trans rfl
  have hfs15 := blk_frozen BK367.out 2
  have hns15_0 := NB359_367.out
  have hns15_1 := NB360_367.out
  have hms15_0 := NB367_359.out
  have hms15_1 := NB367_360.out
  have hs16 : w11.cell? ⟨gb367, 3, none⟩ = some (.bool false) := (blk_cell BK367.out 3).trans rfl
  have hfs16 := blk_frozen BK367.out 3
  have hns16_0 := NB359_367.out
  have hns16_1 := NB360_367.out
  have hms16_0 := NB367_359.out
  have hms16_1 := NB367_360.out
  refine skip_ (w1 := ?_) (by rfl) rfl ?_ ?_
  rotate_left
  · go_simp
    rfl
  refine hK.out _ _ ⟨((cell_far (p := ⟨gb367, _, none⟩) NB359_367.out _).trans (((cell_far (p := ⟨gb367, _, none⟩) NB359_367.out _).trans (((cell_far (p := ⟨gb367, _, none⟩) NB359_367.out _).trans (((cell_far (p := ⟨gb367, _, none⟩) NB359_367.out _).trans (hHeld.1)))))))), ((cell_far (p := ⟨gb367, _, none⟩) NB359_367.out _).trans (((cell_far (p := ⟨gb367, _, none⟩) NB359_367.out _).trans (((cell_far (p := ⟨gb367, _, none⟩) NB359_367.out _).trans (((cell_far (p := ⟨gb367, _, none⟩) NB359_367.out _).trans (hHeld.2.1)))))))), ((cell_far (p := ⟨gb367, _, none⟩) NB359_367.out _).trans (((cell_far (p := ⟨gb367, _, none⟩) NB359_367.out _).trans (((cell_far (p := ⟨gb367, _, none⟩) NB359_367.out _).trans (((cell_far (p := ⟨gb367, _, none⟩) NB359_367.out _).trans (hHeld.2.2.1)))))))), ((cell_far (p := ⟨gb367, _, none⟩) NB359_367.out _).trans (((cell_far (p := ⟨gb367, _, none⟩) NB359_367.out _).trans (((cell_far (p := ⟨gb367, _, none⟩) NB359_367.out _).trans (((cell_far (p := ⟨gb367, _, none⟩) NB359_367.out _).trans (hHeld.2.2.2))))))))⟩ (fun hHeld => ?_)
  clear hK K
  refine done_ (done_of HT_.out (by kernel_rfl)) ?_
  try go_wp2
  go_loopg [4] k (fun kq v4 w' => ∃ (x4_1 : Int) (x368001_1 : List (S79)) (u368001 : Value), v4 = .int .i64 x4_1 ∧ Aside0 (spec_l1Copy.l0 kq x4_1 l0_0 l0_1 a0_2 a0_3 y364 x368001_1 a0_2 a0_3 = some (r1, r2, r3, r4)) ∧ Aside0 (kq ≤ k) ∧ Aside0 (Kd.R (Kd.int .u8) 5 w' w.heap.size (fun _ => True) (.slice Ao12 y364.length co12) y364) ∧ Aside0 (Kd.S k79 79 w' w.heap.size (fun k_ => some k_ ≠ ((.slice Ao12 y364.length co12) : Value).ownBlock) u368001 x368001_1) ∧ Aside0 (w'.heap[gb359]? = some (.cells #[(.slice A0_0 l0_0.length c0_0), (.slice A0_1 l0_1.length c0_1), .int .i64 a0_2, .bool a0_3] 25 (0, 0))) ∧ Aside0 (w'.heap[gb360]? = some (.cells #[(.slice none 0 0), (.slice none 0 0), .int .i64 0, .bool false] 25 (0, 0))) ∧ Aside0 (w'.heap[gb367]? = some (.cells #[(.slice Ao12 y364.length co12), u368001, .int .i64 a0_2, .bool a0_3] 25 (0, 0))) ∧ Aside0 (Below w.heap.size w w'))
  case atStart => exact ⟨(0), (([] : List (S79))), (.slice none 0 0), (by first | rfl | (simp; done) | (simp [*]; done)), H', ⟨Nat.le_refl _⟩, ⟨by (with_reducible repeat (first | apply Kd.R_alloc | apply Kd.R_drewN | apply Kd.R_drew)); exact Kd.R_mono (Kd.R_far (p := ⟨gb367, 3, none⟩) (Kd.R_far (p := ⟨gb367, 2, none⟩) (Kd.R_far (p := ⟨gb367, 1, none⟩) (Kd.R_far (p := ⟨gb367, 0, none⟩) (Kd.R_types HO366.out BK367.out (by decide)) (fun _ hk => hk.2) (.slice Ao12 y364.length co12)) (fun _ hk => hk.2) (.slice none 0 0)) (fun _ hk => hk.2) (.int .i64 a0_2)) (fun _ hk => hk.2) (.bool a0_3)) (fun _ hk => trivial)⟩, ⟨by first | exact Kd.S_nil _ _ _ _ _ | exact Kd.N_nil _ _ _ _ _ | exact Kd.V_nil _ _ _ _ _ | exact Kd.Q_nil _ _ _ _ _ | exact Kd.R_nil _ _ _ _ _⟩, ⟨by (with_reducible repeat (first | refine blk_drewN ?_ _ | refine blk_drew ?_ | refine blk_alloc ?_ _)); refine blk_far ?_ NB359_367.out _; (with_reducible repeat (first | refine blk_drewN ?_ _ | refine blk_drew ?_ | refine blk_alloc ?_ _)); refine blk_far ?_ NB359_367.out _; (with_reducible repeat (first | refine blk_drewN ?_ _ | refine blk_drew ?_ | refine blk_alloc ?_ _)); refine blk_far ?_ NB359_367.out _; (with_reducible repeat (first | refine blk_drewN ?_ _ | refine blk_drew ?_ | refine blk_alloc ?_ _)); refine blk_far ?_ NB359_367.out _; (with_reducible repeat (first | refine blk_drewN ?_ _ | refine blk_drew ?_ | refine blk_alloc ?_ _)); exact BK359.out⟩, ⟨by (with_reducible repeat (first | refine blk_drewN ?_ _ | refine blk_drew ?_ | refine blk_alloc ?_ _)); refine blk_far ?_ NB360_367.out _; (with_reducible repeat (first | refine blk_drewN ?_ _ | refine blk_drew ?_ | refine blk_alloc ?_ _)); refine blk_far ?_ NB360_367.out _; (with_reducible repeat (first | refine blk_drewN ?_ _ | refine blk_drew ?_ | refine blk_alloc ?_ _)); refine blk_far ?_ NB360_367.out _; (with_reducible repeat (first | refine blk_drewN ?_ _ | refine blk_drew ?_ | refine blk_alloc ?_ _)); refine blk_far ?_ NB360_367.out _; (with_reducible repeat (first | refine blk_drewN ?_ _ | refine blk_drew ?_ | refine blk_alloc ?_ _)); exact BK360.out⟩, ⟨by (with_reducible repeat (first | refine blk_drewN ?_ _ | refine blk_drew ?_ | refine blk_alloc ?_ _)); refine blk_put (cs := #[.slice Ao12 y364.length co12, .slice none 0 0, .int .i64 a0_2, .bool false]) ?_ 3 _ rfl; (with_reducible repeat (first | refine blk_drewN ?_ _ | refine blk_drew ?_ | refine blk_alloc ?_ _)); refine blk_put (cs := #[.slice Ao12 y364.length co12, .slice none 0 0, .int .i64 0, .bool false]) ?_ 2 _ rfl; (with_reducible repeat (first | refine blk_drewN ?_ _ | refine blk_drew ?_ | refine blk_alloc ?_ _)); refine blk_put (cs := #[.slice Ao12 y364.length co12, .slice none 0 0, .int .i64 0, .bool false]) ?_ 1 _ rfl; (with_reducible repeat (first | refine blk_drewN ?_ _ | refine blk_drew ?_ | refine blk_alloc ?_ _)); refine blk_put (cs := #[.slice none 0 0, .slice none 0 0, .int .i64 0, .bool false]) ?_ 0 _ rfl; (with_reducible repeat (first | refine blk_drewN ?_ _ | refine blk_drew ?_ | refine blk_alloc ?_ _)); exact BK367.out⟩, ⟨by repeat (first | (with_reducible first | exact HB.out | apply below_alloc | apply pw_below_drewN | apply below_drew1 | refine below_set ?_ GE359.out | refine below_set ?_ GE360.out | refine below_set ?_ GE367.out) | exact HB.out)⟩⟩
  case round =>
    clear H'
    try clear c2
    try clear p2
    try clear c7
    obtain ⟨x4_1, x368001_1, u368001, rfl, HA, HK1, HO_368000, HO_368001, BK359, BK360, BK367, HB⟩ := hrel
    cases gk with
    | zero => exact absurd HA.out (by simp [spec_l1Copy.l0])
    | succ k1 =>
      have H := HA.out
      clear HA
      simp only [spec_l1Copy.l0] at H
      by_cases c17 : x4_1 < (l0_1.length : Int)
      · rw [if_pos c17] at H
        have c17b0 : decide (x4_1 < (l0_1.length : Int)) = true := decide_eq_true c17
        clear c17
        by_cases c18 : 0 ≤ x4_1
        · rw [if_pos c18] at H
          have c18b0 : decide (0 ≤ x4_1) = true := decide_eq_true c18
          clear c18
          obtain ⟨y369, hy369⟩ : ∃ y_ : List Int, y_ = (([] : List Int)) := ⟨_, rfl⟩
          replace H : (if y369.length + ((rd_T79 l0_1 x4_1).f1).length < 140737488355328 then (if x368001_1.length < 4398046511104 then (spec_l1Copy.l0 k1 (wrap64 (x4_1 + 1)) l0_0 l0_1 a0_2 a0_3 y364 (x368001_1 ++ [(⟨(rd_T79 l0_1 x4_1).f0, (y369 ++ ((rd_T79 l0_1 x4_1).f1))⟩ : S79)]) a0_2 a0_3) else (none)) else (none)) = some (r1, r2, r3, r4) := by first | (rw [hy369]; with_reducible exact H) | (have H2_ := (Option.bind_some _ _).symm.trans H; rw [hy369]; with_reducible exact H2_) | (have H2_ := (Option.bind_some _ _).symm.trans H; with_reducible exact H2_) | with_reducible exact H | (rw [hy369]; exact H) | exact H
          have Ny369 := Aside0.mk hy369
          clear hy369
          by_cases c19 : y369.length + ((rd_T79 l0_1 x4_1).f1).length < 140737488355328
          ·rw [if_pos c19] at H
           have LMc19 := Aside0.mk c19
           clear c19
           obtain ⟨y373, hy373⟩ : ∃ y_ : List Int, y_ = (y369 ++ ((rd_T79 l0_1 x4_1).f1)) := ⟨_, rfl⟩
           replace H : (if x368001_1.length < 4398046511104 then (spec_l1Copy.l0 k1 (wrap64 (x4_1 + 1)) l0_0 l0_1 a0_2 a0_3 y364 (x368001_1 ++ [(⟨(rd_T79 l0_1 x4_1).f0, y373⟩ : S79)]) a0_2 a0_3) else (none)) = some (r1, r2, r3, r4) := by first | (rw [hy373]; with_reducible exact H) | (have H2_ := (Option.bind_some _ _).symm.trans H; rw [hy373]; with_reducible exact H2_) | (have H2_ := (Option.bind_some _ _).symm.trans H; with_reducible exact H2_) | with_reducible exact H | (rw [hy373]; exact H) | exact H
           have Ny373 := Aside0.mk hy373
           clear hy373
           by_cases c20 : x368001_1.length < 4398046511104
           ·rw [if_pos c20] at H
            have LMc20 := Aside0.mk c20
            clear c20
            obtain ⟨y376, hy376⟩ : ∃ y_ : List (S79), y_ = (x368001_1 ++ [(⟨(rd_T79 l0_1 x4_1).f0, y373⟩ : S79)]) := ⟨_, rfl⟩
            replace H : (spec_l1Copy.l0 k1 (wrap64 (x4_1 + 1)) l0_0 l0_1 a0_2 a0_3 y364 y376 a0_2 a0_3) = some (r1, r2, r3, r4) := by first | (rw [hy376]; with_reducible exact H) | (have H2_ := (Option.bind_some _ _).symm.trans H; rw [hy376]; with_reducible exact H2_) | (have H2_ := (Option.bind_some _ _).symm.trans H; with_reducible exact H2_) | with_reducible exact H | (rw [hy376]; exact H) | exact H
            have Ny376 := Aside0.mk hy376
            clear hy376
            have H' := Aside0.mk H
            clear H
            have hnb21 := NB359_360.out
            have hnc21 := NB360_359.out
            have hnb22 := NB359_367.out
            have hnc22 := NB367_359.out
            have hcz23_0 : wr.cell? ⟨gb359, 0, none⟩ = some (.slice A0_0 l0_0.length c0_0) := (blk_cell BK359.out 0).trans rfl
            have hcz23_1 : wr.cell? ⟨gb359, 1, none⟩ = some (.slice A0_1 l0_1.length c0_1) := (blk_cell BK359.out 1).trans rfl
            have hcz23_2 : wr.cell? ⟨gb359, 2, none⟩ = some (.int .i64 a0_2) := (blk_cell BK359.out 2).trans rfl
            have hcz23_3 : wr.cell? ⟨gb359, 3, none⟩ = some (.bool a0_3) := (blk_cell BK359.out 3).trans rfl
            have hfz23_0 := blk_frozen BK359.out 0
            have hfz23_1 := blk_frozen BK359.out 1
            have hfz23_2 := blk_frozen BK359.out 2
            have hfz23_3 := blk_frozen BK359.out 3
            try go_wp2
            have n0_ := Aside0.mk (Kd.R_drew HO_368000.out)
            have n1_ := Aside0.mk (Kd.S_drew HO_368001.out)
            have n2_ := Aside0.mk (blk_drew BK359.out)
            have n3_ := Aside0.mk (blk_drew BK360.out)
            have n4_ := Aside0.mk (blk_drew BK367.out)
            have n5_ := Aside0.mk (below_drew1 HB.out)
            clear HO_368000
            clear HO_368001
            clear BK359
            clear BK360
            clear BK367
            clear HB
            have HO_368000 := n0_
            have HO_368001 := n1_
            have BK359 := n2_
            have BK360 := n3_
            have BK367 := n4_
            have HB := n5_
            clear n0_ n1_ n2_ n3_ n4_ n5_
            have p368 : 0 ≤ (x4_1 : Int) := of_decide_eq_true (by first | (with_reducible assumption) | assumption)
            have q368 : x4_1 < (l0_1.length : Int) := of_decide_eq_true (by first | (with_reducible assumption) | assumption)
            obtain ⟨ad368, A368_1, c368_1, e368, hx368_0, hx368_1, hl368_1, hi368_1⟩ := at_T79 HR0_1.out x4_1 p368 q368
            have hw368_1 := hx368_1
            have hw368_0 := hx368_0
            cases e368
            replace hx368_0 := (HB.out.cell (World.block_lt_of_cell? w _ hx368_0)).trans hx368_0
            replace hx368_1 := (HB.out.cell (World.block_lt_of_cell? w _ hx368_1)).trans hx368_1
            have HR368_1 := Aside0.mk hi368_1
            have HC368_1 := Aside0.mk hl368_1
            clear hi368_1 hl368_1
            replace p368 := eq_true p368
            replace q368 := eq_true q368
            have p372 : 0 ≤ (x4_1 : Int) := of_decide_eq_true (by first | (with_reducible assumption) | assumption)
            have q372 : x4_1 < (l0_1.length : Int) := of_decide_eq_true (by first | (with_reducible assumption) | assumption)
            obtain ⟨ad372, A372_1, c372_1, e372, hx372_0, hx372_1, hl372_1, hi372_1⟩ := at_T79 HR0_1.out x4_1 p372 q372
            have hw372_1 := hx372_1
            have hw372_0 := hx372_0
            obtain rfl : ad368 = ad372 := (by injection e372)
            replace hx372_0 := (HB.out.cell (World.block_lt_of_cell? w _ hx372_0)).trans hx372_0
            replace hx372_1 := (HB.out.cell (World.block_lt_of_cell? w _ hx372_1)).trans hx372_1
            have HR372_1 := Aside0.mk hi372_1
            have HC372_1 := Aside0.mk hl372_1
            clear hi372_1 hl372_1
            replace p372 := eq_true p372
            replace q372 := eq_true q372
            have ea_ := Option.some.inj (hx368_1.symm.trans hx372_1)
            injection ea_ with ea_ en_ ec_
            subst ea_
            subst ec_
            clear en_
            refine start_ (n := 21) (S := fun w' => w'.cell? ⟨gb367, 0, none⟩ = some (.slice Ao12 y364.length co12) ∧ w'.cell? ⟨gb367, 1, none⟩ = some (u368001) ∧ w'.cell? ⟨gb367, 2, none⟩ = some (.int .i64 a0_2) ∧ w'.cell? ⟨gb367, 3, none⟩ = some (.bool a0_3) ∧ w'.cell? ⟨gb359, 0, none⟩ = some (.slice A0_0 l0_0.length c0_0) ∧ w'.cell? ⟨gb359, 1, none⟩ = some (.slice (some ad368) l0_1.length c0_1) ∧ w'.cell? ⟨gb359, 2, none⟩ = some (.int .i64 a0_2) ∧ w'.cell? ⟨gb359, 3, none⟩ = some (.bool a0_3) ∧ w'.cell? (ad368.add ((x4_1).toNat * 2)) = some (.int .i64 ((rd_T79 l0_1 x4_1).f0)) ∧ w'.cell? ⟨(ad368.add ((x4_1).toNat * 2)).block, (ad368.add ((x4_1).toNat * 2)).off + 1, none⟩ = some (.slice A368_1 ((rd_T79 l0_1 x4_1).f1).length c368_1) ∧ w'.cell? (ad368.add ((x4_1).toNat * 2)) = some (.int .i64 ((rd_T79 l0_1 x4_1).f0)) ∧ w'.cell? ⟨(ad368.add ((x4_1).toNat * 2)).block, (ad368.add ((x4_1).toNat * 2)).off + 1, none⟩ = some (.slice A368_1 ((rd_T79 l0_1 x4_1).f1).length c368_1)) (ds := [20]) #[false, false, false, false, false, false, false, false, false, false, false, false, false, false, false, false, false, false, false, false, false] (by kernel_rfl) rfl rfl ⟨(blk_cell BK367.out 0).trans rfl, (blk_cell BK367.out 1).trans rfl, (blk_cell BK367.out 2).trans rfl, (blk_cell BK367.out 3).trans rfl, (blk_cell BK359.out 0).trans rfl, (blk_cell BK359.out 1).trans rfl, (blk_cell BK359.out 2).trans rfl, (blk_cell BK359.out 3).trans rfl, ((HB.out.cell (World.block_lt_of_cell? w _ hw368_0)).trans hw368_0), ((HB.out.cell (World.block_lt_of_cell? w _ hw368_1)).trans hw368_1), ((HB.out.cell (World.block_lt_of_cell? w _ hw372_0)).trans hw372_0), ((HB.out.cell (World.block_lt_of_cell? w _ hw372_1)).trans hw372_1)⟩ (fun hHeld => ?_); refine with_tabW spec_l1Copy.tab5 spec_l1Copy.bits5 (fun HT_ HW_ => ?_)
            generalize wr.drew = w24 at HO_368000 HO_368001 BK359 BK360 BK367 HB HR368_1 HR372_1 hx368_0 hx368_1 hx372_0 hx372_1 hHeld ⊢
            refine pure_ (i := 0) (N := some 21) (v := ?_) (a' := ?_) #[true, false, false, false, false, false, false, false, false, false, false, false, false, false, false, false, false, false, false, false, false] rfl rfl (any_of HT_.out (by kernel_rfl)) (fun _ _ _ h => h) (Or.inl ⟨by rfl, ?_⟩) ?_ ?_
            rotate_left
            · intro w'
              go_simp
              with_reducible rfl
            rotate_left
            · simp only [Act.put, List.setIfInBounds_toArray, List.set_cons_zero, List.set_cons_succ, i64_w, i32_w]
              rfl
            refine pure_ (i := 2) (N := some 23) (v := ?_) (a' := ?_) #[true, false, true, false, false, false, false, false, false, false, false, false, false, false, false, false, false, false, false, false, false] rfl rfl (any_of HT_.out (by kernel_rfl)) (fun _ _ _ h => h) (Or.inl ⟨by rfl, ?_⟩) ?_ ?_
            rotate_left
            · intro w'
              go_simp
              with_reducible rfl
            rotate_left
            · simp only [Act.put, List.setIfInBounds_toArray, List.set_cons_zero, List.set_cons_succ, i64_w, i32_w]
              rfl
            refine pure_ (i := 4) (N := some 25) (v := ?_) (a' := ?_) #[true, false, true, false, true, false, false, false, false, false, false, false, false, false, false, false, false, false, false, false, false] rfl rfl (any_of HT_.out (by kernel_rfl)) (fun _ _ _ h => h) (Or.inl ⟨by rfl, ?_⟩) ?_ ?_
            rotate_left
            · intro w'
              go_simp
              with_reducible rfl
            rotate_left
            · simp only [Act.put, List.setIfInBounds_toArray, List.set_cons_zero, List.set_cons_succ, i64_w, i32_w]
              rfl
            refine pure_ (i := 9) (N := some 30) (v := ?_) (a' := ?_) #[true, false, true, false, true, false, false, false, false, true, false, false, false, false, false, false, false, false, false, false, false] rfl rfl (any_of HT_.out (by kernel_rfl)) (fun _ _ _ h => h) (Or.inl ⟨by rfl, ?_⟩) ?_ ?_
            rotate_left
            · intro w'
              go_simp
              with_reducible rfl
            rotate_left
            · simp only [Act.put, List.setIfInBounds_toArray, List.set_cons_zero, List.set_cons_succ, i64_w, i32_w]
              rfl
            refine pure_ (i := 11) (N := some 32) (v := ?_) (a' := ?_) #[true, false, true, false, true, false, false, false, false, true, false, true, false, false, false, false, false, false, false, false, false] rfl rfl (any_of HT_.out (by kernel_rfl)) (fun _ _ _ h => h) (Or.inl ⟨by rfl, ?_⟩) ?_ ?_
            rotate_left
            · intro w'
              go_simp
              with_reducible rfl
            rotate_left
            · simp only [Act.put, List.setIfInBounds_toArray, List.set_cons_zero, List.set_cons_succ, i64_w, i32_w]
              rfl
            refine take_ (i := 1) (N := some 22) (v := ?_) (a' := ?_) #[true, true, true, false, true, false, false, false, false, true, false, true, false, false, false, false, false, false, false, false, false] rfl rfl (take_ofW HT_.out HW_.out (by kernel_rfl)) (fun _ _ _ h => h) (Or.inl ⟨by rfl, ?_⟩) hHeld ?_ ?_
            rotate_left
            · rintro w' ⟨s0, s1, s2, s3, s4, s5, s6, s7, s8, s9, s10, s11⟩
              go_simp
              with_reducible rfl
            rotate_left
            · simp only [Act.put, List.setIfInBounds_toArray, List.set_cons_zero, List.set_cons_succ, i64_w, i32_w]
              rfl
            refine take_ (i := 3) (N := some 24) (v := ?_) (a' := ?_) #[true, true, true, true, true, false, false, false, false, true, false, true, false, false, false, false, false, false, false, false, false] rfl rfl (take_ofW HT_.out HW_.out (by kernel_rfl)) (fun _ _ _ h => h) (Or.inl ⟨by rfl, ?_⟩) hHeld ?_ ?_
            rotate_left
            · rintro w' ⟨s0, s1, s2, s3, s4, s5, s6, s7, s8, s9, s10, s11⟩
              go_simp
              with_reducible rfl
            rotate_left
            · simp only [Act.put, List.setIfInBounds_toArray, List.set_cons_zero, List.set_cons_succ, i64_w, i32_w]
              rfl
            refine pure_ (i := 5) (N := some 26) (v := ?_) (a' := ?_) #[true, true, true, true, true, true, false, false, false, true, false, true, false, false, false, false, false, false, false, false, false] rfl rfl (any_of HT_.out (by kernel_rfl)) (fun _ _ _ h => h) (Or.inl ⟨by rfl, ?_⟩) ?_ ?_
            rotate_left
            · intro w'
              go_simp
              with_reducible rfl
            rotate_left
            · simp only [Act.put, List.setIfInBounds_toArray, List.set_cons_zero, List.set_cons_succ, i64_w, i32_w]
              rfl
            refine pure_ (i := 6) (N := some 27) (v := ?_) (a' := ?_) #[true, true, true, true, true, true, true, false, false, true, false, true, false, false, false, false, false, false, false, false, false] rfl rfl (any_of HT_.out (by kernel_rfl)) (fun _ _ _ h => h) (Or.inl ⟨by rfl, ?_⟩) ?_ ?_
            rotate_left
            · intro w'
              go_simp
              with_reducible rfl
            rotate_left
            · simp only [Act.put, List.setIfInBounds_toArray, List.set_cons_zero, List.set_cons_succ, i64_w, i32_w]
              rfl
            refine take_ (i := 7) (N := some 28) (v := ?_) (a' := ?_) #[true, true, true, true, true, true, true, true, false, true, false, true, false, false, false, false, false, false, false, false, false] rfl rfl (take_ofW HT_.out HW_.out (by kernel_rfl)) (fun _ _ _ h => h) (Or.inl ⟨by rfl, ?_⟩) hHeld ?_ ?_
            rotate_left
            · rintro w' ⟨s0, s1, s2, s3, s4, s5, s6, s7, s8, s9, s10, s11⟩
              go_simp
              with_reducible rfl
            rotate_left
            · simp only [Act.put, List.setIfInBounds_toArray, List.set_cons_zero, List.set_cons_succ, i64_w, i32_w]
              rfl
            refine take_ (i := 10) (N := some 31) (v := ?_) (a' := ?_) #[true, true, true, true, true, true, true, true, false, true, true, true, false, false, false, false, false, false, false, false, false] rfl rfl (take_ofW HT_.out HW_.out (by kernel_rfl)) (fun _ _ _ h => h) (Or.inl ⟨by rfl, ?_⟩) hHeld ?_ ?_
            rotate_left
            · rintro w' ⟨s0, s1, s2, s3, s4, s5, s6, s7, s8, s9, s10, s11⟩
              go_simp
              with_reducible rfl
            rotate_left
            · simp only [Act.put, List.setIfInBounds_toArray, List.set_cons_zero, List.set_cons_succ, i64_w, i32_w]
              rfl
            refine pure_ (i := 12) (N := some 33) (v := ?_) (a' := ?_) #[true, true, true, true, true, true, true, true, false, true, true, true, true, false, false, false, false, false, false, false, false] rfl rfl (any_of HT_.out (by kernel_rfl)) (fun _ _ _ h => h) (Or.inl ⟨by rfl, ?_⟩) ?_ ?_
            rotate_left
            · intro w'
              go_simp
              with_reducible rfl
            rotate_left
            · simp only [Act.put, List.setIfInBounds_toArray, List.set_cons_zero, List.set_cons_succ, i64_w, i32_w]
              rfl
            refine pure_ (i := 13) (N := some 34) (v := ?_) (a' := ?_) #[true, true, true, true, true, true, true, true, false, true, true, true, true, true, false, false, false, false, false, false, false] rfl rfl (any_of HT_.out (by kernel_rfl)) (fun _ _ _ h => h) (Or.inl ⟨by rfl, ?_⟩) ?_ ?_
            rotate_left
            · intro w'
              go_simp
              with_reducible rfl
            rotate_left
            · simp only [Act.put, List.setIfInBounds_toArray, List.set_cons_zero, List.set_cons_succ, i64_w, i32_w]
              rfl
            refine take_ (i := 14) (N := some 35) (v := ?_) (a' := ?_) #[true, true, true, true, true, true, true, true, false, true, true, true, true, true, true, false, false, false, false, false, false] rfl rfl (take_ofW HT_.out HW_.out (by kernel_rfl)) (fun _ _ _ h => h) (Or.inl ⟨by rfl, ?_⟩) hHeld ?_ ?_
            rotate_left
            · rintro w' ⟨s0, s1, s2, s3, s4, s5, s6, s7, s8, s9, s10, s11⟩
              go_simp
              with_reducible rfl
            rotate_left
            · simp only [Act.put, List.setIfInBounds_toArray, List.set_cons_zero, List.set_cons_succ, i64_w, i32_w]
              rfl
            refine one_ (i := 8) (N := some 29) #[true, true, true, true, true, true, true, true, true, true, true, true, true, true, true, false, false, false, false, false, false] rfl rfl (one_of HT_.out (by kernel_rfl)) (by decide) (fun K hK => ?_)
            refine Kd.R_lit_step (Kd.int .u8) _ 5 ?hg (N := 29) ?hd (xs := ([] : List Int)) (inner := []) (ok := fun _ => True) (okp := fun _ => True) ?hr ?hp (fun _ hk => hk) trivial (Below.refl _ _) (Nat.le_refl _) (by simp) ?_; (case hd => rfl); (case hg => rfl); (case hr => first | (go_simp; done) | (go_simp; rfl)); (case hp => exact (Reps.none _ _))
            intro v370 w25 ho26 hb hg_ hnew_
            clear hg_ hnew_
            (first | rw [← Ny369.out] at ho26 | (simp only [Int.reduceToNat] at ho26; rw [← Ny369.out] at ho26))
            have n0_ := Aside0.mk (Kd.R_elder' (by (with_reducible repeat (first | apply Kd.R_alloc | apply Kd.R_drewN | apply Kd.R_drew)); exact HO_368000.out) (Kd.R_base ho26) hb)
            have n1_ := Aside0.mk (Kd.S_elder' (by (with_reducible repeat (first | apply Kd.S_alloc | apply Kd.S_drewN | apply Kd.S_drew)); exact HO_368001.out) (Kd.R_base ho26) hb)
            have n2_ := Aside0.mk (Kd.R_lower (Kd.R_new' ho26 (Kd.R_lt (by (with_reducible repeat (first | apply Kd.R_alloc | apply Kd.R_drewN | apply Kd.R_drew)); exact HO_368000.out))) (below_size (by repeat (first | (with_reducible first | exact HB.out | apply below_alloc | apply pw_below_drewN | apply below_drew1 | refine below_set ?_ GE359.out | refine below_set ?_ GE360.out | refine below_set ?_ GE367.out) | exact HB.out))))
            have n3_ := Aside0.mk (blk_below (g := gb359) (o := .cells #[.slice A0_0 l0_0.length c0_0, .slice (some ad368) l0_1.length c0_1, .int .i64 a0_2, .bool a0_3] 25 (0, 0)) (by (with_reducible repeat (first | refine blk_drewN ?_ _ | refine blk_drew ?_ | refine blk_alloc ?_ _)); exact BK359.out) hb)
            have n4_ := Aside0.mk (blk_below (g := gb360) (o := .cells #[.slice none 0 0, .slice none 0 0, .int .i64 0, .bool false] 25 (0, 0)) (by (with_reducible repeat (first | refine blk_drewN ?_ _ | refine blk_drew ?_ | refine blk_alloc ?_ _)); exact BK360.out) hb)
            have n5_ := Aside0.mk (blk_below (g := gb367) (o := .cells #[.slice Ao12 y364.length co12, u368001, .int .i64 a0_2, .bool a0_3] 25 (0, 0)) (by (with_reducible repeat (first | refine blk_drewN ?_ _ | refine blk_drew ?_ | refine blk_alloc ?_ _)); exact BK367.out) hb)
            have n6_ := Aside0.mk (below_step (by repeat (first | (with_reducible first | exact HB.out | apply below_alloc | apply pw_below_drewN | apply below_drew1 | refine below_set ?_ GE359.out | refine below_set ?_ GE360.out | refine below_set ?_ GE367.out) | exact HB.out)) hb)
            clear HO_368000
            clear HO_368001
            clear BK359
            clear BK360
            clear BK367
            clear HB
            have HO_368000 := n0_
            have HO_368001 := n1_
            have HO371 := n2_
            have BK359 := n3_
            have BK360 := n4_
            have BK367 := n5_
            have HB := n6_
            clear n0_ n1_ n2_ n3_ n4_ n5_ n6_
            clear hb ho26
            refine hK.out _ _ ⟨(blk_cell BK367.out 0).trans rfl, (blk_cell BK367.out 1).trans rfl, (blk_cell BK367.out 2).trans rfl, (blk_cell BK367.out 3).trans rfl, (blk_cell BK359.out 0).trans rfl, (blk_cell BK359.out 1).trans rfl, (blk_cell BK359.out 2).trans rfl, (blk_cell BK359.out 3).trans rfl, ((HB.out.cell (World.block_lt_of_cell? w _ hw368_0)).trans hw368_0), ((HB.out.cell (World.block_lt_of_cell? w _ hw368_1)).trans hw368_1), ((HB.out.cell (World.block_lt_of_cell? w _ hw372_0)).trans hw372_0), ((HB.out.cell (World.block_lt_of_cell? w _ hw372_1)).trans hw372_1)⟩ (fun hHeld => ?_)
            clear hK K
            refine norm_ (a' := ?_) ?_ ?_
            rotate_left
            · show Act.put _ (some 29) _ = _
              simp only [Act.put, List.setIfInBounds_toArray, List.set_cons_zero, List.set_cons_succ, i64_w, i32_w]
              rfl
            refine one_ (i := 15) (N := some 36) #[true, true, true, true, true, true, true, true, true, true, true, true, true, true, true, true, false, false, false, false, false] rfl rfl (one_of HT_.out (by kernel_rfl)) (by decide) (fun K hK => ?_)
            refine Kd.R_append_rows_step (Kd.int .u8) (w0 := w) w.heap.size (by rfl) (.tmp 29) (.tmp 35) 22 5 (.int .u8 0) 1 rfl Try.underlying22 info5 rfl (by decide) (by omega) v370 y369 ((rd_T79 l0_1 x4_1).f1) _ _ _ (fun k_ => some k_ ≠ (.slice Ao12 y364.length co12 : Value).ownBlock) (fun _ => False) rfl rfl ?aO ?aR (fun _ _ h => h) (fun _ h => h.elim) ?aF ?aB ?aS ?aL ?_
            (case aR => repeat (first | exact (Kd.C_below HR372_1.out HB.out) | (with_reducible refine Kd.C_alloc ?_ _) | (with_reducible refine Kd.C_drewN ?_ _) | (with_reducible refine Kd.C_drew ?_)))
            (case aB => exact (by repeat (first | (with_reducible first | exact HB.out | apply below_alloc | apply pw_below_drewN | apply below_drew1 | refine below_set ?_ GE359.out | refine below_set ?_ GE360.out | refine below_set ?_ GE367.out) | exact HB.out)))
            (case aF => exact (fun k_ hk => Kd.fresh' (Kd.R_lt (by (with_reducible repeat (first | apply Kd.R_alloc | apply Kd.R_drewN | apply Kd.R_drew)); exact HO_368000.out)) k_ hk))
            (case aO => exact (by (with_reducible repeat (first | apply Kd.R_alloc | apply Kd.R_drewN | apply Kd.R_drew)); exact Kd.R_mono HO371.out (fun _ hk => hk.2)))
            (case aS => exact (below_size (by repeat (first | (with_reducible first | exact HB.out | apply below_alloc | apply pw_below_drewN | apply below_drew1 | refine below_set ?_ GE359.out | refine below_set ?_ GE360.out | refine below_set ?_ GE367.out) | exact HB.out))))
            (case aL => have := LMc19.out; omega)
            intro v374 w27 ho hb hg hat
            rw [← Ny373.out] at ho
            have n0_ := Aside0.mk (Kd.R_after (ok := (fun _ => True)) (by (with_reducible repeat (first | apply Kd.R_alloc | apply Kd.R_drewN | apply Kd.R_drew)); exact HO_368000.out) hg hat)
            have n1_ := Aside0.mk (Kd.S_after (ok := (fun k_ => some k_ ≠ (.slice Ao12 y364.length co12 : Value).ownBlock)) (by (with_reducible repeat (first | apply Kd.S_alloc | apply Kd.S_drewN | apply Kd.S_drew)); exact HO_368001.out) hg hat)
            have n2_ := Aside0.mk (blk_grown (g := gb359) (o := .cells #[.slice A0_0 l0_0.length c0_0, .slice (some ad368) l0_1.length c0_1, .int .i64 a0_2, .bool a0_3] 25 (0, 0)) (by (with_reducible repeat (first | refine blk_drewN ?_ _ | refine blk_drew ?_ | refine blk_alloc ?_ _)); exact BK359.out) hg (Kd.R_ne HO371.out BK359.out (by decide)))
            have n3_ := Aside0.mk (blk_grown (g := gb360) (o := .cells #[.slice none 0 0, .slice none 0 0, .int .i64 0, .bool false] 25 (0, 0)) (by (with_reducible repeat (first | refine blk_drewN ?_ _ | refine blk_drew ?_ | refine blk_alloc ?_ _)); exact BK360.out) hg (Kd.R_ne HO371.out BK360.out (by decide)))
            have n4_ := Aside0.mk (blk_grown (g := gb367) (o := .cells #[.slice Ao12 y364.length co12, u368001, .int .i64 a0_2, .bool a0_3] 25 (0, 0)) (by (with_reducible repeat (first | refine blk_drewN ?_ _ | refine blk_drew ?_ | refine blk_alloc ?_ _)); exact BK367.out) hg (Kd.R_ne HO371.out BK367.out (by decide)))
            have n5_ := Aside0.mk (hb)
            have n6_ := Aside0.mk (ho)
            clear HO_368000
            clear HO_368001
            clear BK359
            clear BK360
            clear BK367
            clear HB
            clear HO371
            have HO_368000 := n0_
            have HO_368001 := n1_
            have BK359 := n2_
            have BK360 := n3_
            have BK367 := n4_
            have HB := n5_
            have HO375 := n6_
            clear n0_ n1_ n2_ n3_ n4_ n5_ n6_
            clear ho hb hg hat
            obtain ⟨Ao28, co28, eo28⟩ := Kd.R_slice HO375.out
            (first | subst eo28 | (injection eo28 with f1_ f2_ f3_; have f4_ := f1_.symm; have f5_ := f3_.symm; clear f1_ f2_ f3_; subst f4_; subst f5_))
            refine hK.out _ _ ⟨(blk_cell BK367.out 0).trans rfl, (blk_cell BK367.out 1).trans rfl, (blk_cell BK367.out 2).trans rfl, (blk_cell BK367.out 3).trans rfl, (blk_cell BK359.out 0).trans rfl, (blk_cell BK359.out 1).trans rfl, (blk_cell BK359.out 2).trans rfl, (blk_cell BK359.out 3).trans rfl, ((HB.out.cell (World.block_lt_of_cell? w _ hw368_0)).trans hw368_0), ((HB.out.cell (World.block_lt_of_cell? w _ hw368_1)).trans hw368_1), ((HB.out.cell (World.block_lt_of_cell? w _ hw372_0)).trans hw372_0), ((HB.out.cell (World.block_lt_of_cell? w _ hw372_1)).trans hw372_1)⟩ (fun hHeld => ?_)
            clear hK K
            refine norm_ (a' := ?_) ?_ ?_
            rotate_left
            · show Act.put _ (some 36) _ = _
              simp only [Act.put, List.setIfInBounds_toArray, List.set_cons_zero, List.set_cons_succ, i64_w, i32_w]
              rfl
            refine pure_ (i := 16) (N := some 37) (v := ?_) (a' := ?_) #[true, true, true, true, true, true, true, true, true, true, true, true, true, true, true, true, true, false, false, false, false] rfl rfl (any_of HT_.out (by kernel_rfl)) (fun _ _ _ h => h) (Or.inl ⟨by rfl, ?_⟩) ?_ ?_
            rotate_left
            · intro w'
              go_simp
              with_reducible rfl
            rotate_left
            · simp only [Act.put, List.setIfInBounds_toArray, List.set_cons_zero, List.set_cons_succ, i64_w, i32_w]
              rfl
            refine one_ (i := 17) (N := some 38) #[true, true, true, true, true, true, true, true, true, true, true, true, true, true, true, true, true, true, false, false, false] rfl rfl (one_of HT_.out (by kernel_rfl)) (by decide) (fun K hK => ?_)
            refine value_ (w1 := ?_) (v := ?_) (by rfl) rfl ?_ ?_
            rotate_left 2
            · go_simp
              constructor
              ·rfl
              ·rfl
            refine hK.out _ _ ⟨(blk_cell (blk_alloc BK367.out _) 0).trans rfl, (blk_cell (blk_alloc BK367.out _) 1).trans rfl, (blk_cell (blk_alloc BK367.out _) 2).trans rfl, (blk_cell (blk_alloc BK367.out _) 3).trans rfl, (blk_cell (blk_alloc BK359.out _) 0).trans rfl, (blk_cell (blk_alloc BK359.out _) 1).trans rfl, (blk_cell (blk_alloc BK359.out _) 2).trans rfl, (blk_cell (blk_alloc BK359.out _) 3).trans rfl, (World.cell?_alloc_lt _ _ _ (World.block_lt_of_cell? _ _ (((HB.out.cell (World.block_lt_of_cell? w _ hw368_0)).trans hw368_0)))).trans (((HB.out.cell (World.block_lt_of_cell? w _ hw368_0)).trans hw368_0)), (World.cell?_alloc_lt _ _ _ (World.block_lt_of_cell? _ _ (((HB.out.cell (World.block_lt_of_cell? w _ hw368_1)).trans hw368_1)))).trans (((HB.out.cell (World.block_lt_of_cell? w _ hw368_1)).trans hw368_1)), (World.cell?_alloc_lt _ _ _ (World.block_lt_of_cell? _ _ (((HB.out.cell (World.block_lt_of_cell? w _ hw372_0)).trans hw372_0)))).trans (((HB.out.cell (World.block_lt_of_cell? w _ hw372_0)).trans hw372_0)), (World.cell?_alloc_lt _ _ _ (World.block_lt_of_cell? _ _ (((HB.out.cell (World.block_lt_of_cell? w _ hw372_1)).trans hw372_1)))).trans (((HB.out.cell (World.block_lt_of_cell? w _ hw372_1)).trans hw372_1))⟩ (fun hHeld => ?_)
            clear hK K
            refine norm_ (a' := ?_) ?_ ?_
            rotate_left
            · show Act.put _ (some 38) _ = _
              simp only [Act.put, List.setIfInBounds_toArray, List.set_cons_zero, List.set_cons_succ, i64_w, i32_w]
              rfl
            refine one_ (i := 18) (N := some 39) #[true, true, true, true, true, true, true, true, true, true, true, true, true, true, true, true, true, true, true, false, false] rfl rfl (one_of HT_.out (by kernel_rfl)) (by decide) (fun K hK => ?_)
            refine Kd.S_append_step k79 (w0 := w) w.heap.size (by rfl) (.tmp 22) (.tmp 38) 23 79 (.agg #[(.int .i64 0), (.slice none 0 0)]) 32 rfl Try.underlying23 info79 rfl (by decide) (by omega) u368001 x368001_1 (⟨(rd_T79 l0_1 x4_1).f0, y373⟩ : S79) [.int .i64 ((rd_T79 l0_1 x4_1).f0), .slice Ao28 y373.length co28] (fun k_ => some k_ ≠ (.slice Ao12 y364.length co12 : Value).ownBlock) (fun k_ => some k_ = (.slice Ao28 y373.length co28 : Value).ownBlock) rfl rfl ?aP (fun k_ hk_ => ((Kd.R_mono (ok' := fun k_ => ((fun k_ => some k_ ≠ (.slice Ao12 y364.length co12 : Value).ownBlock)) k_ ∧ some k_ ≠ (u368001 : Value).ownBlock) (Kd.R_apart' (HO375.out) (Kd.S_typed HO_368001.out) (by decide)) (fun k_ hk => ⟨hk.1, hk.2⟩))).1 k_ hk_.symm) ?aF ?aO ?aB ?aS ?aL ?_
            (case aP => exact k79_mkM _ _ _ (⟨(rd_T79 l0_1 x4_1).f0, y373⟩ : S79) (Kd.R_mono (Kd.R_tight rfl (Kd.R_mono (ok' := fun k_ => ((fun k_ => some k_ ≠ (.slice Ao12 y364.length co12 : Value).ownBlock)) k_ ∧ some k_ ≠ (u368001 : Value).ownBlock) (Kd.R_apart' (HO375.out) (Kd.S_typed HO_368001.out) (by decide)) (fun k_ hk => ⟨hk.1, hk.2⟩))) (fun _ h_ => h_)))
            (case aB => exact (by repeat (first | (with_reducible first | exact HB.out | apply below_alloc | apply pw_below_drewN | apply below_drew1 | refine below_set ?_ GE359.out | refine below_set ?_ GE360.out | refine below_set ?_ GE367.out) | exact HB.out)))
            (case aF => exact (fun k_ hk => Kd.fresh' (Kd.R_lt (by (with_reducible repeat (first | apply Kd.R_alloc | apply Kd.R_drewN | apply Kd.R_drew)); exact HO_368000.out)) k_ hk))
            (case aO => exact (by (with_reducible repeat (first | apply Kd.S_alloc | apply Kd.S_drewN | apply Kd.S_drew)); exact Kd.S_mono HO_368001.out (fun k_ hk => ⟨hk.1, fun e_ => hk.2 e_⟩)))
            (case aS => exact (below_size (by repeat (first | (with_reducible first | exact HB.out | apply below_alloc | apply pw_below_drewN | apply below_drew1 | refine below_set ?_ GE359.out | refine below_set ?_ GE360.out | refine below_set ?_ GE367.out) | exact HB.out))))
            (case aL => have := LMc20.out; omega)
            intro v377 w29 ho hb hg hat
            rw [← Ny376.out] at ho
            have n0_ := Aside0.mk (Kd.R_over' (by (with_reducible repeat (first | apply Kd.R_alloc | apply Kd.R_drewN | apply Kd.R_drew)); exact HO_368000.out) (Kd.S_typed (by (with_reducible repeat (first | apply Kd.S_alloc | apply Kd.S_drewN | apply Kd.S_drew)); exact HO_368001.out)) (by decide) hg)
            have n1_ := Aside0.mk (blk_grown (g := gb359) (o := .cells #[.slice A0_0 l0_0.length c0_0, .slice (some ad368) l0_1.length c0_1, .int .i64 a0_2, .bool a0_3] 25 (0, 0)) (by (with_reducible repeat (first | refine blk_drewN ?_ _ | refine blk_drew ?_ | refine blk_alloc ?_ _)); exact BK359.out) hg (Kd.S_ne HO_368001.out BK359.out (by decide)))
            have n2_ := Aside0.mk (blk_grown (g := gb360) (o := .cells #[.slice none 0 0, .slice none 0 0, .int .i64 0, .bool false] 25 (0, 0)) (by (with_reducible repeat (first | refine blk_drewN ?_ _ | refine blk_drew ?_ | refine blk_alloc ?_ _)); exact BK360.out) hg (Kd.S_ne HO_368001.out BK360.out (by decide)))
            have n3_ := Aside0.mk (blk_grown (g := gb367) (o := .cells #[.slice Ao12 y364.length co12, u368001, .int .i64 a0_2, .bool a0_3] 25 (0, 0)) (by (with_reducible repeat (first | refine blk_drewN ?_ _ | refine blk_drew ?_ | refine blk_alloc ?_ _)); exact BK367.out) hg (Kd.S_ne HO_368001.out BK367.out (by decide)))
            have n4_ := Aside0.mk (hb)
            have n5_ := Aside0.mk (ho)
            clear HO_368000
            clear BK359
            clear BK360
            clear BK367
            clear HB
            clear HO_368001
            clear HO375
            have HO_368000 := n0_
            have BK359 := n1_
            have BK360 := n2_
            have BK367 := n3_
            have HB := n4_
            have HO378 := n5_
            clear n0_ n1_ n2_ n3_ n4_ n5_
            clear ho hb hg hat
            obtain ⟨Ao30, co30, eo30⟩ := Kd.S_slice HO378.out
            (first | subst eo30 | (injection eo30 with f1_ f2_ f3_; have f4_ := f1_.symm; have f5_ := f3_.symm; clear f1_ f2_ f3_; subst f4_; subst f5_))
            refine hK.out _ _ ⟨(blk_cell BK367.out 0).trans rfl, (blk_cell BK367.out 1).trans rfl, (blk_cell BK367.out 2).trans rfl, (blk_cell BK367.out 3).trans rfl, (blk_cell BK359.out 0).trans rfl, (blk_cell BK359.out 1).trans rfl, (blk_cell BK359.out 2).trans rfl, (blk_cell BK359.out 3).trans rfl, ((HB.out.cell (World.block_lt_of_cell? w _ hw368_0)).trans hw368_0), ((HB.out.cell (World.block_lt_of_cell? w _ hw368_1)).trans hw368_1), ((HB.out.cell (World.block_lt_of_cell? w _ hw372_0)).trans hw372_0), ((HB.out.cell (World.block_lt_of_cell? w _ hw372_1)).trans hw372_1)⟩ (fun hHeld => ?_)
            clear hK K
            refine norm_ (a' := ?_) ?_ ?_
            rotate_left
            · show Act.put _ (some 39) _ = _
              simp only [Act.put, List.setIfInBounds_toArray, List.set_cons_zero, List.set_cons_succ, i64_w, i32_w]
              rfl
            refine pure_ (i := 19) (N := some 40) (v := ?_) (a' := ?_) #[true, true, true, true, true, true, true, true, true, true, true, true, true, true, true, true, true, true, true, true, false] rfl rfl (any_of HT_.out (by kernel_rfl)) (fun _ _ _ h => h) (Or.inl ⟨by rfl, ?_⟩) ?_ ?_
            rotate_left
            · intro w'
              go_simp
              with_reducible rfl
            rotate_left
            · simp only [Act.put, List.setIfInBounds_toArray, List.set_cons_zero, List.set_cons_succ, i64_w, i32_w]
              rfl
            refine last_ (i := 20) (N := none) #[true, true, true, true, true, true, true, true, true, true, true, true, true, true, true, true, true, true, true, true, true] rfl rfl (one_of HT_.out (by kernel_rfl)) (by decide) (fun K hK => ?_)
            have hs31 : w29.cell? ⟨gb367, 1, none⟩ = some (u368001) := (blk_cell BK367.out 1).trans rfl
            have hfs31 := blk_frozen BK367.out 1
            have hns31_0 := NB359_367.out
            have hns31_1 := NB360_367.out
            have hms31_0 := NB367_359.out
            have hms31_1 := NB367_360.out
            refine skip_ (w1 := ?_) (by rfl) rfl ?_ ?_
            rotate_left
            · go_simp
              rfl
            refine hK.out _ _ ?_
            clear hK K
            refine done_ (done_of HT_.out (by kernel_rfl)) ?_
            try go_wp2
            go_roundg k1
            case measure => have := HK1.out; omega
            case rel => exact ⟨(wrap64 (x4_1 + 1)), (y376), (.slice Ao30 y376.length co30), (by first | rfl | (simp; done) | (simp [*]; done)), H', ⟨by have := HK1.out; omega⟩, ⟨by (with_reducible repeat (first | apply Kd.R_alloc | apply Kd.R_drewN | apply Kd.R_drew)); exact Kd.R_mono (Kd.R_far (p := ⟨gb367, 1, none⟩) (Kd.R_types HO_368000.out BK367.out (by decide)) (fun _ hk => hk.2) (.slice Ao30 y376.length co30)) (fun _ hk => trivial)⟩, ⟨by (with_reducible repeat (first | apply Kd.S_alloc | apply Kd.S_drewN | apply Kd.S_drew)); exact Kd.S_mono (Kd.S_far (p := ⟨gb367, 1, none⟩) (Kd.S_types HO378.out BK367.out (by decide)) (fun _ hk => hk.2) (.slice Ao30 y376.length co30)) (fun _ hk => hk.1)⟩, ⟨by (with_reducible repeat (first | refine blk_drewN ?_ _ | refine blk_drew ?_ | refine blk_alloc ?_ _)); refine blk_far ?_ NB359_367.out _; (with_reducible repeat (first | refine blk_drewN ?_ _ | refine blk_drew ?_ | refine blk_alloc ?_ _)); exact BK359.out⟩, ⟨by (with_reducible repeat (first | refine blk_drewN ?_ _ | refine blk_drew ?_ | refine blk_alloc ?_ _)); refine blk_far ?_ NB360_367.out _; (with_reducible repeat (first | refine blk_drewN ?_ _ | refine blk_drew ?_ | refine blk_alloc ?_ _)); exact BK360.out⟩, ⟨by (with_reducible repeat (first | refine blk_drewN ?_ _ | refine blk_drew ?_ | refine blk_alloc ?_ _)); refine blk_put (cs := #[.slice Ao12 y364.length co12, u368001, .int .i64 a0_2, .bool a0_3]) ?_ 1 _ rfl; (with_reducible repeat (first | refine blk_drewN ?_ _ | refine blk_drew ?_ | refine blk_alloc ?_ _)); exact BK367.out⟩, ⟨by repeat (first | (with_reducible first | exact HB.out | apply below_alloc | apply pw_below_drewN | apply below_drew1 | refine below_set ?_ GE359.out | refine below_set ?_ GE360.out | refine below_set ?_ GE367.out) | exact HB.out)⟩⟩
           ·rw [if_neg c20] at H
            exact absurd H (by simp)
          ·rw [if_neg c19] at H
           exact absurd H (by simp)
        · rw [if_neg c18] at H
          exact absurd H (by simp)
      · rw [if_neg c17] at H
        have c17b0 : decide (x4_1 < (l0_1.length : Int)) = false := decide_eq_false c17
        clear c17
        simp only [Option.some.injEq, Prod.mk.injEq] at H
        obtain ⟨rfl, rfl, rfl, rfl⟩ := H
        have hnb32 := NB359_360.out
        have hnc32 := NB360_359.out
        have hnb33 := NB359_367.out
        have hnc33 := NB367_359.out
        have hcz34_0 : wr.cell? ⟨gb359, 0, none⟩ = some (.slice A0_0 l0_0.length c0_0) := (blk_cell BK359.out 0).trans rfl
        have hcz34_1 : wr.cell? ⟨gb359, 1, none⟩ = some (.slice A0_1 l0_1.length c0_1) := (blk_cell BK359.out 1).trans rfl
        have hcz34_2 : wr.cell? ⟨gb359, 2, none⟩ = some (.int .i64 a0_2) := (blk_cell BK359.out 2).trans rfl
        have hcz34_3 : wr.cell? ⟨gb359, 3, none⟩ = some (.bool a0_3) := (blk_cell BK359.out 3).trans rfl
        have hfz34_0 := blk_frozen BK359.out 0
        have hfz34_1 := blk_frozen BK359.out 1
        have hfz34_2 := blk_frozen BK359.out 2
        have hfz34_3 := blk_frozen BK359.out 3
        have hnb35 := NB367_360.out
        have hnc35 := NB360_367.out
        have hcz36_0 : wr.cell? ⟨gb367, 0, none⟩ = some (.slice Ao12 y364.length co12) := (blk_cell BK367.out 0).trans rfl
        have hcz36_1 : wr.cell? ⟨gb367, 1, none⟩ = some (u368001) := (blk_cell BK367.out 1).trans rfl
        have hcz36_2 : wr.cell? ⟨gb367, 2, none⟩ = some (.int .i64 a0_2) := (blk_cell BK367.out 2).trans rfl
        have hcz36_3 : wr.cell? ⟨gb367, 3, none⟩ = some (.bool a0_3) := (blk_cell BK367.out 3).trans rfl
        have hfz36_0 := blk_frozen BK367.out 0
        have hfz36_1 := blk_frozen BK367.out 1
        have hfz36_2 := blk_frozen BK367.out 2
        have hfz36_3 := blk_frozen BK367.out 3
        have hcz37_0 : wr.cell? ⟨gb360, 0, none⟩ = some (.slice none 0 0) := (blk_cell BK360.out 0).trans rfl
        have hcz37_1 : wr.cell? ⟨gb360, 1, none⟩ = some (.slice none 0 0) := (blk_cell BK360.out 1).trans rfl
        have hcz37_2 : wr.cell? ⟨gb360, 2, none⟩ = some (.int .i64 0) := (blk_cell BK360.out 2).trans rfl
        have hcz37_3 : wr.cell? ⟨gb360, 3, none⟩ = some (.bool false) := (blk_cell BK360.out 3).trans rfl
        have hfz37_0 := blk_frozen BK360.out 0
        have hfz37_1 := blk_frozen BK360.out 1
        have hfz37_2 := blk_frozen BK360.out 2
        have hfz37_3 := blk_frozen BK360.out 3
        obtain ⟨Ao38, co38, eo38⟩ := Kd.S_slice HO_368001.out
        subst eo38
        go_wp2
        refine bodyPost_ret (results_cell_row rfl _ _ gb360 25 #[.slice Ao12 y364.length co12, .slice Ao38 x368001_1.length co38, .int .i64 a0_2, .bool a0_3] (0, 0) _ rfl (by (with_reducible repeat (first | refine blk_drewN ?_ _ | refine blk_drew ?_ | refine blk_alloc ?_ _)); refine blk_put (cs := #[.slice Ao12 y364.length co12, .slice Ao38 x368001_1.length co38, .int .i64 a0_2, .bool false]) ?_ 3 _ rfl; (with_reducible repeat (first | refine blk_drewN ?_ _ | refine blk_drew ?_ | refine blk_alloc ?_ _)); refine blk_put (cs := #[.slice Ao12 y364.length co12, .slice Ao38 x368001_1.length co38, .int .i64 0, .bool false]) ?_ 2 _ rfl; (with_reducible repeat (first | refine blk_drewN ?_ _ | refine blk_drew ?_ | refine blk_alloc ?_ _)); refine blk_put (cs := #[.slice Ao12 y364.length co12, .slice none 0 0, .int .i64 0, .bool false]) ?_ 1 _ rfl; (with_reducible repeat (first | refine blk_drewN ?_ _ | refine blk_drew ?_ | refine blk_alloc ?_ _)); refine blk_put (cs := #[.slice none 0 0, .slice none 0 0, .int .i64 0, .bool false]) ?_ 0 _ rfl; (with_reducible repeat (first | refine blk_drewN ?_ _ | refine blk_drew ?_ | refine blk_alloc ?_ _)); exact BK360.out) Try.underlying25 rfl (by kernel_rfl)) rfl ?_
        exact ⟨_, _, by first | rfl | (simp [errW_none, errW_some] <;> rfl) | (simp [*, errW_none, errW_some] <;> rfl), by (with_reducible repeat (first | apply Kd.R_alloc | apply Kd.R_drewN | apply Kd.R_drew)); exact Kd.R_mono (Kd.R_far (p := ⟨gb360, 3, none⟩) (Kd.R_far (p := ⟨gb360, 2, none⟩) (Kd.R_far (p := ⟨gb360, 1, none⟩) (Kd.R_far (p := ⟨gb360, 0, none⟩) (Kd.R_types HO_368000.out BK360.out (by decide)) (fun _ hk => hk.2) (.slice Ao12 y364.length co12)) (fun _ hk => hk.2) (.slice Ao38 x368001_1.length co38)) (fun _ hk => hk.2) (.int .i64 a0_2)) (fun _ hk => hk.2) (.bool a0_3)) (fun _ hk => trivial), by (with_reducible repeat (first | apply Kd.S_alloc | apply Kd.S_drewN | apply Kd.S_drew)); exact Kd.S_mono (Kd.S_far (p := ⟨gb360, 3, none⟩) (Kd.S_far (p := ⟨gb360, 2, none⟩) (Kd.S_far (p := ⟨gb360, 1, none⟩) (Kd.S_far (p := ⟨gb360, 0, none⟩) (Kd.S_types HO_368001.out BK360.out (by decide)) (fun _ hk => hk.2) (.slice Ao12 y364.length co12)) (fun _ hk => hk.2) (.slice Ao38 x368001_1.length co38)) (fun _ hk => hk.2) (.int .i64 a0_2)) (fun _ hk => hk.2) (.bool a0_3)) (fun _ hk => hk.1), by repeat (first | (with_reducible first | exact HB.out | apply below_alloc | apply pw_below_drewN | apply below_drew1 | refine below_set ?_ GE359.out | refine below_set ?_ GE360.out | refine below_set ?_ GE367.out) | exact HB.out)⟩
 ·rw [if_neg c2] at H
  exact absurd H (by simp)

/-! ### spec_l1Over: function 54 -/
def spec_l1Over.f (l0 : List Int) (a1 : Int) (l2 : List Int) : Option (List Int) := (some (([] : List Int) : List Int)).bind fun y379 => (if 0 ≤ (wrap64 (a1 * 64)) then (if (wrap64 (a1 * 64)) ≤ (l0.length : Int) then (if y379.length + (l0.take ((wrap64 (a1 * 64)) : Int).toNat).length < 140737488355328 then ((some (y379 ++ (l0.take ((wrap64 (a1 * 64)) : Int).toNat) : List Int)).bind fun y383 => (if y383.length + l2.length < 140737488355328 then ((some (y383 ++ l2 : List Int)).bind fun y386 => (if 0 ≤ (wrap64 ((wrap64 (a1 * 64)) + (l2.length : Int))) then (if (wrap64 ((wrap64 (a1 * 64)) + (l2.length : Int))) ≤ (l0.length : Int) then (if y386.length + (l0.drop ((wrap64 ((wrap64 (a1 * 64)) + (l2.length : Int))) : Int).toNat).length < 140737488355328 then (some (y386 ++ (l0.drop ((wrap64 ((wrap64 (a1 * 64)) + (l2.length : Int))) : Int).toNat))) else (none)) else (none)) else (none))) else (none))) else (none)) else (none)) else (none))
set_option maxHeartbeats 8000000 in
set_option maxRecDepth 100000 in
theorem spec_l1Over.calls (A0 : Option Addr) (c0 : Nat) (l0 : List Int) (a1 : Int) (A2 : Option Addr) (c2 : Nat) (l2 : List Int) (r : List Int) (w : World) (hr0 : Kd.C (Kd.int .u8) w A0 l0.length l0) (hc0 : l0.length ≤ c0) (hr2 : Kd.C (Kd.int .u8) w A2 l2.length l2) (hc2 : l2.length ≤ c2) (h : spec_l1Over.f l0 a1 l2 = some r) :
  Calls Try.prog 54 #[.slice A0 l0.length c0, .int .i64 a1, .slice A2 l2.length c2] w fun e w' => ∃ v0_ : Value, e = .returned (v0_) ∧ Kd.R (Kd.int .u8) 5 w' w.heap.size (fun _ => True) v0_ r ∧ Below w.heap.size w w' := by
 have HR0 := Aside0.mk hr0
 have HC0 := Aside0.mk hc0
 clear hr0 hc0
 have HR2 := Aside0.mk hr2
 have HC2 := Aside0.mk hc2
 clear hr2 hc2
 have HB := Aside0.mk (Below.refl w.heap.size w)
 have H : ((some (([] : List Int) : List Int)).bind fun y379 => (if 0 ≤ (wrap64 (a1 * 64)) then (if (wrap64 (a1 * 64)) ≤ (l0.length : Int) then (if y379.length + (l0.take ((wrap64 (a1 * 64)) : Int).toNat).length < 140737488355328 then ((some (y379 ++ (l0.take ((wrap64 (a1 * 64)) : Int).toNat) : List Int)).bind fun y383 => (if y383.length + l2.length < 140737488355328 then ((some (y383 ++ l2 : List Int)).bind fun y386 => (if 0 ≤ (wrap64 ((wrap64 (a1 * 64)) + (l2.length : Int))) then (if (wrap64 ((wrap64 (a1 * 64)) + (l2.length : Int))) ≤ (l0.length : Int) then (if y386.length + (l0.drop ((wrap64 ((wrap64 (a1 * 64)) + (l2.length : Int))) : Int).toNat).length < 140737488355328 then (some (y386 ++ (l0.drop ((wrap64 ((wrap64 (a1 * 64)) + (l2.length : Int))) : Int).toNat))) else (none)) else (none)) else (none))) else (none))) else (none)) else (none)) else (none))) = some r := h
 clear h
 obtain ⟨y379, hy379⟩ : ∃ y_ : List Int, y_ = (([] : List Int)) := ⟨_, rfl⟩
 replace H : (if 0 ≤ (wrap64 (a1 * 64)) then (if (wrap64 (a1 * 64)) ≤ (l0.length : Int) then (if y379.length + (l0.take ((wrap64 (a1 * 64)) : Int).toNat).length < 140737488355328 then ((some (y379 ++ (l0.take ((wrap64 (a1 * 64)) : Int).toNat) : List Int)).bind fun y383 => (if y383.length + l2.length < 140737488355328 then ((some (y383 ++ l2 : List Int)).bind fun y386 => (if 0 ≤ (wrap64 ((wrap64 (a1 * 64)) + (l2.length : Int))) then (if (wrap64 ((wrap64 (a1 * 64)) + (l2.length : Int))) ≤ (l0.length : Int) then (if y386.length + (l0.drop ((wrap64 ((wrap64 (a1 * 64)) + (l2.length : Int))) : Int).toNat).length < 140737488355328 then (some (y386 ++ (l0.drop ((wrap64 ((wrap64 (a1 * 64)) + (l2.length : Int))) : Int).toNat))) else (none)) else (none)) else (none))) else (none))) else (none)) else (none)) else (none)) = some r := by first | (rw [hy379]; with_reducible exact H) | (have H2_ := (Option.bind_some _ _).symm.trans H; rw [hy379]; with_reducible exact H2_) | (have H2_ := (Option.bind_some _ _).symm.trans H; with_reducible exact H2_) | with_reducible exact H | (rw [hy379]; exact H) | exact H
 have Ny379 := Aside0.mk hy379
 clear hy379
 obtain ⟨ji4, hji4⟩ : ∃ j_ : Int, (wrap64 (a1 * 64)) = j_ := ⟨_, rfl⟩
 replace H : (if 0 ≤ (ji4) then (if (ji4) ≤ (l0.length : Int) then (if y379.length + (l0.take ((ji4) : Int).toNat).length < 140737488355328 then ((some (y379 ++ (l0.take ((ji4) : Int).toNat) : List Int)).bind fun y383 => (if y383.length + l2.length < 140737488355328 then ((some (y383 ++ l2 : List Int)).bind fun y386 => (if 0 ≤ (wrap64 ((ji4) + (l2.length : Int))) then (if (wrap64 ((ji4) + (l2.length : Int))) ≤ (l0.length : Int) then (if y386.length + (l0.drop ((wrap64 ((ji4) + (l2.length : Int))) : Int).toNat).length < 140737488355328 then (some (y386 ++ (l0.drop ((wrap64 ((ji4) + (l2.length : Int))) : Int).toNat))) else (none)) else (none)) else (none))) else (none))) else (none)) else (none)) else (none)) = some r := by first | (rw [hji4] at H; exact H) | (simp only [hji4] at H ⊢; exact H)
 have hji4w : (IntKind.i64.wrap (a1 * 64)) = ji4 := (i64_w _).trans hji4
 by_cases c5 : 0 ≤ (ji4)
 ·rw [if_pos c5] at H
  have c5b0 := eq_true c5
  have c5b1 : decide (0 ≤ (ji4)) = true := decide_eq_true c5
  clear c5
  by_cases c6 : (ji4) ≤ (l0.length : Int)
  ·rw [if_pos c6] at H
   have c6b0 := eq_true c6
   have c6b1 : decide ((ji4) ≤ (l0.length : Int)) = true := decide_eq_true c6
   clear c6
   by_cases c7 : y379.length + (l0.take ((ji4) : Int).toNat).length < 140737488355328
   ·rw [if_pos c7] at H
    have LMc7 := Aside0.mk c7
    clear c7
    obtain ⟨y383, hy383⟩ : ∃ y_ : List Int, y_ = (y379 ++ (l0.take ((ji4) : Int).toNat)) := ⟨_, rfl⟩
    replace H : (if y383.length + l2.length < 140737488355328 then ((some (y383 ++ l2 : List Int)).bind fun y386 => (if 0 ≤ (wrap64 ((ji4) + (l2.length : Int))) then (if (wrap64 ((ji4) + (l2.length : Int))) ≤ (l0.length : Int) then (if y386.length + (l0.drop ((wrap64 ((ji4) + (l2.length : Int))) : Int).toNat).length < 140737488355328 then (some (y386 ++ (l0.drop ((wrap64 ((ji4) + (l2.length : Int))) : Int).toNat))) else (none)) else (none)) else (none))) else (none)) = some r := by first | (rw [hy383]; with_reducible exact H) | (have H2_ := (Option.bind_some _ _).symm.trans H; rw [hy383]; with_reducible exact H2_) | (have H2_ := (Option.bind_some _ _).symm.trans H; with_reducible exact H2_) | with_reducible exact H | (rw [hy383]; exact H) | exact H
    have Ny383 := Aside0.mk hy383
    clear hy383
    by_cases c8 : y383.length + l2.length < 140737488355328
    ·rw [if_pos c8] at H
     have LMc8 := Aside0.mk c8
     clear c8
     obtain ⟨y386, hy386⟩ : ∃ y_ : List Int, y_ = (y383 ++ l2) := ⟨_, rfl⟩
     replace H : (if 0 ≤ (wrap64 ((ji4) + (l2.length : Int))) then (if (wrap64 ((ji4) + (l2.length : Int))) ≤ (l0.length : Int) then (if y386.length + (l0.drop ((wrap64 ((ji4) + (l2.length : Int))) : Int).toNat).length < 140737488355328 then (some (y386 ++ (l0.drop ((wrap64 ((ji4) + (l2.length : Int))) : Int).toNat))) else (none)) else (none)) else (none)) = some r := by first | (rw [hy386]; with_reducible exact H) | (have H2_ := (Option.bind_some _ _).symm.trans H; rw [hy386]; with_reducible exact H2_) | (have H2_ := (Option.bind_some _ _).symm.trans H; with_reducible exact H2_) | with_reducible exact H | (rw [hy386]; exact H) | exact H
     have Ny386 := Aside0.mk hy386
     clear hy386
     obtain ⟨ji9, hji9⟩ : ∃ j_ : Int, (wrap64 ((ji4) + (l2.length : Int))) = j_ := ⟨_, rfl⟩
     replace H : (if 0 ≤ (ji9) then (if (ji9) ≤ (l0.length : Int) then (if y386.length + (l0.drop ((ji9) : Int).toNat).length < 140737488355328 then (some (y386 ++ (l0.drop ((ji9) : Int).toNat))) else (none)) else (none)) else (none)) = some r := by first | (rw [hji9] at H; exact H) | (simp only [hji9] at H ⊢; exact H)
     have hji9w : (IntKind.i64.wrap ((ji4) + (l2.length : Int))) = ji9 := (i64_w _).trans hji9
     by_cases c10 : 0 ≤ (ji9)
     ·rw [if_pos c10] at H
      have c10b0 := eq_true c10
      have c10b1 : decide (0 ≤ (ji9)) = true := decide_eq_true c10
      clear c10
      by_cases c11 : (ji9) ≤ (l0.length : Int)
      ·rw [if_pos c11] at H
       have c11b0 := eq_true c11
       have c11b1 : decide ((ji9) ≤ (l0.length : Int)) = true := decide_eq_true c11
       clear c11
       by_cases c12 : y386.length + (l0.drop ((ji9) : Int).toNat).length < 140737488355328
       ·rw [if_pos c12] at H
        have LMc12 := Aside0.mk c12
        clear c12
        obtain ⟨y390, hy390⟩ : ∃ y_ : List Int, y_ = (y386 ++ (l0.drop ((ji9) : Int).toNat)) := ⟨_, rfl⟩
        replace H : (some y390) = some r := by first | (rw [hy390]; with_reducible exact H) | (have H2_ := (Option.bind_some _ _).symm.trans H; rw [hy390]; with_reducible exact H2_) | (have H2_ := (Option.bind_some _ _).symm.trans H; with_reducible exact H2_) | with_reducible exact H | (rw [hy390]; exact H) | exact H
        have Ny390 := Aside0.mk hy390
        clear hy390
        obtain rfl := Option.some.inj H
        go_enter Try.func54, Try.ntmps54
        go_wp2_with (first | ((with_reducible refine gate_dst (N := 11) rfl ?_); refine Kd.R_lit (Kd.int .u8) _ 5 ?hg (N := 11) ?hd (xs := ([] : List Int)) (inner := []) (ok := fun _ => True) (okp := fun _ => True) ?hr ?hp (fun _ hk => hk) trivial (Below.refl _ _) (Nat.le_refl _) (by simp) ?_; (case hd => rfl); (case hg => rfl); (case hr => first | (go_simp; done) | (go_simp; rfl)); (case hp => exact (Reps.none _ _)); intro v380 w13 ho14 hb hg_ hnew_; clear hg_ hnew_; (first | rw [← Ny379.out] at ho14 | (simp only [Int.reduceToNat] at ho14; rw [← Ny379.out] at ho14)); have n0_ := Aside0.mk (Kd.R_lower ho14 (below_size (by repeat (first | (with_reducible first | exact HB.out | apply below_alloc | apply pw_below_drewN | apply below_drew1) | exact HB.out)))); have n1_ := Aside0.mk (below_step (by repeat (first | (with_reducible first | exact HB.out | apply below_alloc | apply pw_below_drewN | apply below_drew1) | exact HB.out)) hb); clear HB; have HO381 := n0_; have HB := n1_; clear n0_ n1_; clear hb ho14; obtain ⟨i015, hi015, _, hsz15, _⟩ := info_parts info5; obtain ⟨hcut15, hA15, hC15⟩ := print_take_of (P := Try.prog) (Value.int .u8) 0 22 5 .i64 Try.underlying22 hi015 hsz15 A0 c0 l0 (ji4) (of_decide_eq_true (by first | (with_reducible assumption) | assumption)) (of_decide_eq_true (by first | (with_reducible assumption) | assumption)) HC0.out; have HR382 := Aside0.mk (Kd.C_of_reads (h1 := fun _ => rfl) (hA15 _ (Kd.reads_of_C HR0.out))); have HC382 := Aside0.mk hC15; clear hA15 hC15 hi015 hsz15) | ((with_reducible refine gate_builtin (b := .append) (xs := #[.tmp 11, .tmp 14]) rfl ?_); at_builtin; refine Kd.R_append_rows (Kd.int .u8) (w0 := w) w.heap.size rfl (.tmp 11) (.tmp 14) 22 5 (.int .u8 0) 1 rfl Try.underlying22 info5 rfl (by decide) (by omega) v380 y379 (l0.take ((ji4) : Int).toNat) _ _ _ (fun _ => True) (fun _ => False) rfl rfl ?aO ?aR (fun _ _ h => h) (fun _ h => h.elim) ?aF ?aB ?aS ?aL ?_; (case aR => first | (have hlx_ := (show (l0.take ((ji4) : Int).toNat).length = (ji4).toNat from (by rw [List.length_take]; have h_ : ((ji4) : Int) ≤ (l0.length : Int) := of_decide_eq_true (by first | (with_reducible assumption) | assumption); omega)); have g_ := (Kd.C_below HR382.out HB.out); rw [hlx_] at g_; exact g_) | (rw [← show (l0.take ((ji4) : Int).toNat).length = (ji4).toNat from (by rw [List.length_take]; have h_ : ((ji4) : Int) ≤ (l0.length : Int) := of_decide_eq_true (by first | (with_reducible assumption) | assumption); omega)]; repeat (first | exact (Kd.C_below HR382.out HB.out) | (with_reducible refine Kd.C_alloc ?_ _) | (with_reducible refine Kd.C_drewN ?_ _) | (with_reducible refine Kd.C_drew ?_))) | (repeat (first | exact (Kd.C_below HR382.out HB.out) | (with_reducible refine Kd.C_alloc ?_ _) | (with_reducible refine Kd.C_drewN ?_ _) | (with_reducible refine Kd.C_drew ?_)))); (case aB => exact (by repeat (first | (with_reducible first | exact HB.out | apply below_alloc | apply pw_below_drewN | apply below_drew1) | exact HB.out))); (case aF => exact (fun _ _ => trivial)); (case aO => exact (by (with_reducible repeat (first | apply Kd.R_alloc | apply Kd.R_drewN | apply Kd.R_drew)); exact HO381.out)); (case aS => exact (below_size (by repeat (first | (with_reducible first | exact HB.out | apply below_alloc | apply pw_below_drewN | apply below_drew1) | exact HB.out)))); (case aL => have := LMc7.out; have hlx_ := (show (l0.take ((ji4) : Int).toNat).length = (ji4).toNat from (by rw [List.length_take]; have h_ : ((ji4) : Int) ≤ (l0.length : Int) := of_decide_eq_true (by first | (with_reducible assumption) | assumption); omega)); omega); intro v384 w16 ho hb hg hat; rw [← Ny383.out] at ho; have n0_ := Aside0.mk (hb); have n1_ := Aside0.mk (ho); clear HB; clear HO381; have HB := n0_; have HO385 := n1_; clear n0_ n1_; clear ho hb hg hat) | ((with_reducible refine gate_builtin (b := .append) (xs := #[.tmp 16, .tmp 17]) rfl ?_); at_builtin; refine Kd.R_append_rows (Kd.int .u8) (w0 := w) w.heap.size rfl (.tmp 16) (.tmp 17) 22 5 (.int .u8 0) 1 rfl Try.underlying22 info5 rfl (by decide) (by omega) v384 y383 l2 _ _ _ (fun _ => True) (fun _ => False) rfl rfl ?aO ?aR (fun _ _ h => h) (fun _ h => h.elim) ?aF ?aB ?aS ?aL ?_; (case aR => repeat (first | exact (Kd.C_below HR2.out HB.out) | (with_reducible refine Kd.C_alloc ?_ _) | (with_reducible refine Kd.C_drewN ?_ _) | (with_reducible refine Kd.C_drew ?_))); (case aB => exact (by repeat (first | (with_reducible first | exact HB.out | apply below_alloc | apply pw_below_drewN | apply below_drew1) | exact HB.out))); (case aF => exact (fun _ _ => trivial)); (case aO => exact (by (with_reducible repeat (first | apply Kd.R_alloc | apply Kd.R_drewN | apply Kd.R_drew)); exact HO385.out)); (case aS => exact (below_size (by repeat (first | (with_reducible first | exact HB.out | apply below_alloc | apply pw_below_drewN | apply below_drew1) | exact HB.out)))); (case aL => have := LMc8.out; omega); intro v387 w17 ho hb hg hat; rw [← Ny386.out] at ho; have n0_ := Aside0.mk (hb); have n1_ := Aside0.mk (ho); clear HB; clear HO385; have HB := n0_; have HO388 := n1_; clear n0_ n1_; clear ho hb hg hat; obtain ⟨i018, hi018, _, hsz18, _⟩ := info_parts info5; obtain ⟨A18, hcut18, hA18, hC18⟩ := print_drop_of (P := Try.prog) (Value.int .u8) 0 22 5 .i64 Try.underlying22 hi018 hsz18 A0 c0 l0 (ji9) (of_decide_eq_true (by first | (with_reducible assumption) | assumption)) (of_decide_eq_true (by first | (with_reducible assumption) | assumption)) HC0.out; have HR389 := Aside0.mk (Kd.C_of_reads (h1 := fun _ => rfl) (hA18 _ (Kd.reads_of_C HR0.out))); have HC389 := Aside0.mk hC18; clear hA18 hC18 hi018 hsz18) | ((with_reducible refine gate_builtin (b := .append) (xs := #[.tmp 19, .tmp 25]) rfl ?_); at_builtin; refine Kd.R_append_rows (Kd.int .u8) (w0 := w) w.heap.size rfl (.tmp 19) (.tmp 25) 22 5 (.int .u8 0) 1 rfl Try.underlying22 info5 rfl (by decide) (by omega) v387 y386 (l0.drop ((ji9) : Int).toNat) _ _ _ (fun _ => True) (fun _ => False) rfl rfl ?aO ?aR (fun _ _ h => h) (fun _ h => h.elim) ?aF ?aB ?aS ?aL ?_; (case aR => first | (have hlx_ := (show (l0.drop ((ji9) : Int).toNat).length = (l0.length - (ji9).toNat) from List.length_drop); have g_ := (Kd.C_below HR389.out HB.out); rw [hlx_] at g_; exact g_) | (rw [← show (l0.drop ((ji9) : Int).toNat).length = (l0.length - (ji9).toNat) from List.length_drop]; repeat (first | exact (Kd.C_below HR389.out HB.out) | (with_reducible refine Kd.C_alloc ?_ _) | (with_reducible refine Kd.C_drewN ?_ _) | (with_reducible refine Kd.C_drew ?_))) | (repeat (first | exact (Kd.C_below HR389.out HB.out) | (with_reducible refine Kd.C_alloc ?_ _) | (with_reducible refine Kd.C_drewN ?_ _) | (with_reducible refine Kd.C_drew ?_)))); (case aB => exact (by repeat (first | (with_reducible first | exact HB.out | apply below_alloc | apply pw_below_drewN | apply below_drew1) | exact HB.out))); (case aF => exact (fun _ _ => trivial)); (case aO => exact (by (with_reducible repeat (first | apply Kd.R_alloc | apply Kd.R_drewN | apply Kd.R_drew)); exact HO388.out)); (case aS => exact (below_size (by repeat (first | (with_reducible first | exact HB.out | apply below_alloc | apply pw_below_drewN | apply below_drew1) | exact HB.out)))); (case aL => have := LMc12.out; have hlx_ := (show (l0.drop ((ji9) : Int).toNat).length = (l0.length - (ji9).toNat) from List.length_drop); omega); intro v391 w19 ho hb hg hat; rw [← Ny390.out] at ho; have n0_ := Aside0.mk (hb); have n1_ := Aside0.mk (ho); clear HB; clear HO388; have HB := n0_; have HO392 := n1_; clear n0_ n1_; clear ho hb hg hat))
        go_ret
        exact ⟨_, by first | rfl | (simp [errW_none, errW_some] <;> rfl) | (simp only [← hji4, ← hji9]; first | rfl | (simp [errW_none, errW_some] <;> rfl)) | (simp [*, errW_none, errW_some] <;> rfl), by (with_reducible repeat (first | apply Kd.R_alloc | apply Kd.R_drewN | apply Kd.R_drew)); exact HO392.out, by repeat (first | (with_reducible first | exact HB.out | apply below_alloc | apply pw_below_drewN | apply below_drew1) | exact HB.out)⟩
       ·rw [if_neg c12] at H
        exact absurd H (by simp)
      ·rw [if_neg c11] at H
       exact absurd H (by simp)
     ·rw [if_neg c10] at H
      exact absurd H (by simp)
    ·rw [if_neg c8] at H
     exact absurd H (by simp)
   ·rw [if_neg c7] at H
    exact absurd H (by simp)
  ·rw [if_neg c6] at H
   exact absurd H (by simp)
 ·rw [if_neg c5] at H
  exact absurd H (by simp)

/-! ### L_base: a text by hand -/
-- words of this session's own: stores into a variable's block that is elder than what is held
theorem R_farB {α : Type} {d : Kd α} {e base : Nat} {w : World} {ok : Nat → Prop} {v : Value} {xs : List α} {b : Nat} (h : d.R e w base ok v xs) (hb : b < base) (j : Nat) (u : Value) : d.R e (w.setCell ⟨b, j, none⟩ u) base ok v xs :=
 Kd.R_mono (Kd.R_far (p := ⟨b, j, none⟩) (Kd.R_bound h) (fun k hk => show k ≠ b by have := hk.2.1; omega) u) (fun _ hk => hk.1)
theorem S_farB {α : Type} {d : Kd α} {e base : Nat} {w : World} {ok : Nat → Prop} {v : Value} {xs : List α} {b : Nat} (h : Kd.S d e w base ok v xs) (hb : b < base) (j : Nat) (u : Value) : Kd.S d e (w.setCell ⟨b, j, none⟩ u) base ok v xs :=
 Kd.S_mono (Kd.S_far (p := ⟨b, j, none⟩) (Kd.S_bound h) (fun k hk => show k ≠ b by have := hk.2.1; omega) u) (fun _ hk => hk.1)
theorem below_setB {B b : Nat} {w W : World} (h : Below B w W) (hb : B ≤ b) (j : Nat) (u : Value) : Below B w (W.setCell ⟨b, j, none⟩ u) := h.setCell hb u
theorem below_allocB {B : Nat} {w W : World} (h : Below B w W) (hB : B ≤ W.heap.size) (o : Obj) : Below B w (W.alloc o) := h.alloc hB o
theorem blk_two {w W : World} {a b : Obj} (hb : Below ((w.alloc a).alloc b).heap.size ((w.alloc a).alloc b) W) : W.heap[w.heap.size + 1]? = some b := by
 have h := blk_below (blk_new (w.alloc a) b) hb
 have e : (w.alloc a).heap.size = w.heap.size + 1 := by simp
 rwa [e] at h
theorem blk_cells4 {w : World} {g t : Nat} {a b c d : Value} (h : w.heap[g]? = some (.cells #[a, b, c, d] t (0, 0))) : w.cell? ⟨g, 0, none⟩ = some a ∧ w.cell? ⟨g, 1, none⟩ = some b ∧ w.cell? ⟨g, 2, none⟩ = some c ∧ w.cell? ⟨g, 3, none⟩ = some d ∧
  w.frozen? ⟨g, 0, none⟩ = false ∧ w.frozen? ⟨g, 1, none⟩ = false ∧ w.frozen? ⟨g, 2, none⟩ = false ∧ w.frozen? ⟨g, 3, none⟩ = false :=
 ⟨(blk_cell h 0).trans rfl, (blk_cell h 1).trans rfl, (blk_cell h 2).trans rfl, (blk_cell h 3).trans rfl, blk_frozen h 0, blk_frozen h 1, blk_frozen h 2, blk_frozen h 3⟩
theorem blk_set4 {w : World} {g t : Nat} {a b c d a' b' c' d' : Value} (h : w.heap[g]? = some (.cells #[a, b, c, d] t (0, 0))) :
  ((((w.setCell ⟨g, 0, none⟩ a').setCell ⟨g, 1, none⟩ b').setCell ⟨g, 2, none⟩ c').setCell ⟨g, 3, none⟩ d').heap[g]? = some (.cells #[a', b', c', d'] t (0, 0)) :=
 blk_put (blk_put (blk_put (blk_put h 0 a' rfl) 1 b' rfl) 2 c' rfl) 3 d' rfl
theorem R_iv {α : Type} {d : Kd α} {e b : Nat} {w : World} {ok : Nat → Prop} {v : Value} {xs : List α} (h : d.R e w b ok v xs) (B lo : Nat) (hB : B ≤ b) (hlo : lo ≤ b) : d.R e w B (fun k => (lo ≤ k ∧ k < w.heap.size) ∧ ok k) v xs :=
 Kd.R_mono (Kd.R_lower (Kd.R_bound h) hB) (fun k hk => ⟨⟨Nat.le_trans hlo hk.2.1, hk.2.2.1⟩, hk.1⟩)
theorem S_iv {α : Type} {d : Kd α} {e b : Nat} {w : World} {ok : Nat → Prop} {v : Value} {xs : List α} (h : Kd.S d e w b ok v xs) (B lo : Nat) (hB : B ≤ b) (hlo : lo ≤ b) : Kd.S d e w B (fun k => (lo ≤ k ∧ k < w.heap.size) ∧ ok k) v xs :=
 Kd.S_mono (Kd.S_lower (Kd.S_bound h) hB) (fun k hk => ⟨⟨Nat.le_trans hlo hk.2.1, hk.2.2.1⟩, hk.1⟩)
theorem drawn_below {w w' : World} (h : Drawn0 w w') : Below w.heap.size w w' := h.below

/-! ### spec_l1Step: function 115 -/
def spec_l1Step.f (k : Nat) (l0_0 : List Int) (l0_1 : List (S79)) (a0_2 : Int) (a0_3 : Bool) : Option (List Int × (List (S79)) × Int × Bool) := (spec_l1Copy.f k l0_0 l0_1 a0_2 a0_3).bind fun bt395 => (if bt395.2.2.1 = 0 then (some (bt395.1, bt395.2.1, bt395.2.2.1, true)) else (if bt395.2.2.1 > 0 then (some (bt395.1, bt395.2.1, wrap64 (bt395.2.2.1 - 1), bt395.2.2.2)) else (some (bt395.1, bt395.2.1, bt395.2.2.1, bt395.2.2.2))))
set_option maxHeartbeats 1000000 in
set_option maxRecDepth 100000 in
theorem spec_l1Step.calls (k : Nat) (A0_0 : Option Addr) (c0_0 : Nat) (l0_0 : List Int) (A0_1 : Option Addr) (c0_1 : Nat) (l0_1 : List (S79)) (a0_2 : Int) (a0_3 : Bool) (r1 : List Int) (r2 : List (S79)) (r3 : Int) (r4 : Bool) (w : World) (hr0_0 : Kd.C (Kd.int .u8) w A0_0 l0_0.length l0_0) (hc0_0 : l0_0.length ≤ c0_0) (hr0_1 : Kd.C k79 w A0_1 l0_1.length l0_1) (hc0_1 : l0_1.length ≤ c0_1) (h : spec_l1Step.f k l0_0 l0_1 a0_2 a0_3 = some (r1, r2, r3, r4)) :
  Calls Try.prog 115 #[.agg #[.slice A0_0 l0_0.length c0_0, .slice A0_1 l0_1.length c0_1, .int .i64 a0_2, .bool a0_3]] w fun e w' => ∃ v0_ v1_ : Value, e = .returned (.agg #[v0_, v1_, .int .i64 r3, .bool r4]) ∧ Kd.R (Kd.int .u8) 5 w' w.heap.size (fun _ => True) v0_ r1 ∧ Kd.S k79 79 w' w.heap.size (fun k_ => some k_ ≠ (v0_ : Value).ownBlock) v1_ r2 ∧ Below w.heap.size w w' := by
 have hu := Try.underlying25
 unfold spec_l1Step.f at h
 obtain ⟨⟨t0, t1, t2, t3⟩, H0, H⟩ := Option.bind_eq_some_iff.mp h
 clear h
 dsimp only at H
 have H0' := Aside0.mk H0
 clear H0
 have HR0 := Aside0.mk hr0_0
 have HR1 := Aside0.mk hr0_1
 clear hr0_0 hr0_1
 have HC0 := Aside0.mk hc0_0
 have HC1 := Aside0.mk hc0_1
 clear hc0_0 hc0_1
 have H' := Aside0.mk H
 clear H
 go_enter Try.func115, Try.ntmps115
 go_wp2_with fail
 refine (spec_l1Copy.calls k _ _ l0_0 _ _ l0_1 _ _ t0 t1 t2 t3 _ (Kd.C_alloc (Kd.C_alloc HR0.out _) _) HC0.out (Kd.C_alloc (Kd.C_alloc HR1.out _) _) HC1.out H0'.out).mono ?_
 rintro e w1 ⟨u0, u1, rfl, g0, g1, gb⟩
 obtain ⟨B0, d0, rfl⟩ := Kd.R_slice g0
 obtain ⟨B1, d1, rfl⟩ := Kd.S_slice g1
 have hz : w.heap.size + 1 < w1.heap.size := blk_lt (blk_two gb)
 obtain ⟨z0, z1, z2, z3, y0, y1, y2, y3⟩ := blk_cells4 (blk_two gb)
 have hlt : w.heap.size + 1 < ((w.alloc (.cells #[.slice A0_0 l0_0.length c0_0, .slice A0_1 l0_1.length c0_1, .int .i64 a0_2, .bool a0_3] 25)).alloc (.cells #[.slice none 0 0, .slice none 0 0, .int .i64 0, .bool false] 25)).heap.size := by simp
 have K0 := Aside0.mk (blk_two gb)
 have G0 := Aside0.mk g0
 have G1 := Aside0.mk g1
 have HL := Aside0.mk hlt
 have GB := Aside0.mk (below_step (below_alloc (below_alloc (Below.refl _ _) _) _) gb)
 clear g0 g1 gb hlt
 have cut : ∀ (w2 : World) (q2 : Int) (q3 : Bool), some (t0, t1, q2, q3) = some (r1, r2, r3, r4) → w2 = ((((w1.setCell ⟨w.heap.size + 1, 0, none⟩ (.slice B0 t0.length d0)).setCell ⟨w.heap.size + 1, 1, none⟩ (.slice B1 t1.length d1)).setCell ⟨w.heap.size + 1, 2, none⟩ (.int .i64 q2)).setCell ⟨w.heap.size + 1, 3, none⟩ (.bool q3)) →
   ∀ o : Obj, (w2.alloc o).heap[w.heap.size + 1]? = some (.cells #[.slice B0 r1.length d0, .slice B1 r2.length d1, .int .i64 r3, .bool r4] 25 (0, 0)) ∧
    Kd.R (Kd.int .u8) 5 (w2.alloc o) w.heap.size (fun _ => True) (.slice B0 r1.length d0) r1 ∧ Kd.S k79 79 (w2.alloc o) w.heap.size (fun k_ => some k_ ≠ (Value.slice B0 r1.length d0).ownBlock) (.slice B1 r2.length d1) r2 ∧ Below w.heap.size w (w2.alloc o) := by
  intro w2 q2 q3 hq hw o
  simp only [Option.some.injEq, Prod.mk.injEq] at hq
  obtain ⟨rfl, rfl, rfl, rfl⟩ := hq
  subst hw
  refine ⟨blk_alloc (blk_set4 K0.out) o, ?_, ?_, ?_⟩
  ·exact Kd.R_alloc (Kd.R_lower (R_farB (R_farB (R_farB (R_farB G0.out HL.out _ _) HL.out _ _) HL.out _ _) HL.out _ _) (by have := HL.out; omega)) _
  ·exact Kd.S_alloc (Kd.S_lower (S_farB (S_farB (S_farB (S_farB G1.out HL.out _ _) HL.out _ _) HL.out _ _) HL.out _ _) (by have := HL.out; omega)) _
  ·exact below_allocB (below_setB (below_setB (below_setB (below_setB GB.out (by omega) _ _) (by omega) _ _) (by omega) _ _) (by omega) _ _) (below_setB (below_setB (below_setB (below_setB GB.out (by omega) _ _) (by omega) _ _) (by omega) _ _) (by omega) _ _).size _
 have CUT := Aside0.mk cut
 clear cut
 by_cases c : t2 = 0
 ·subst c
  go_wp2
  obtain ⟨q0, q1, q2, q3⟩ := CUT.out _ 0 true (by have := H'.out; simp only [if_true] at this; exact this) rfl _
  exact bodyPost_ret (results_cell_row rfl _ _ (w.heap.size + 1) 25 _ (0, 0) _ rfl q0 Try.underlying25 rfl (by kernel_rfl)) rfl ⟨_, _, rfl, q1, q2, q3⟩
 ·have cb : (t2 == 0) = false := beq_eq_false_iff_ne.mpr c
  by_cases c2 : t2 > 0
  ·go_wp2
   obtain ⟨q0, q1, q2, q3⟩ := CUT.out _ (wrap64 (t2 - 1)) t3 (by have := H'.out; rw [if_neg c, if_pos (by omega)] at this; exact this) rfl _
   exact bodyPost_ret (results_cell_row rfl _ _ (w.heap.size + 1) 25 _ (0, 0) _ rfl q0 Try.underlying25 rfl (by kernel_rfl)) rfl ⟨_, _, rfl, q1, q2, q3⟩
  ·have cb2 : decide (t2 > 0) = false := decide_eq_false c2
   go_wp2
   obtain ⟨q0, q1, q2, q3⟩ := CUT.out _ t2 t3 (by have := H'.out; rw [if_neg c, if_neg (by omega)] at this; exact this) rfl _
   exact bodyPost_ret (results_cell_row rfl _ _ (w.heap.size + 1) 25 _ (0, 0) _ rfl q0 Try.underlying25 rfl (by kernel_rfl)) rfl ⟨_, _, rfl, q1, q2, q3⟩
end Go.Proofs.Yteddpdonmhiplaa.PR
