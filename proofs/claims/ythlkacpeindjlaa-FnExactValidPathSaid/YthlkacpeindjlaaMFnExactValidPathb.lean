-- Made by this session's programs out of the translation and of its own texts.
import Derived.Test.YthlkacpeindjlaaMFnExactValidPatha
namespace Go.Proofs.Ythlkacpeindjlaa.PV
open Go.RowKit Go.Proofs.YthlkacpeindjlaaW.PrintWords Go.Proofs.YthlkacpeindjlaaW.PrintLast Go.Proofs.YthlkacpeindjlaaW.PrintMore
attribute [local go_sem] max2_int min2_int max_two min_two max_three min_three max_four min_four   -- for this text's walks alone
set_option linter.unusedVariables false
set_option linter.unusedSimpArgs false

/-! ### L_specPath: a text by hand -/
theorem ev_eq {α : Type} {g : Nat → Option α} {r r' : α} (hg : ∀ k, LeO (g k) (g (k + 1))) (h : Ev g r) {k : Nat} (h' : g k = some r') : r' = r := by
  obtain ⟨K, h⟩ := h
  have h1 := at_rounds hg (Nat.le_max_left k K) h'
  rw [h (max k K) (Nat.le_max_right _ _)] at h1
  exact (Option.some.inj h1).symm
def gN (l : List S54) (i : Nat) : S54 := l.getD i z54
theorem gN_rd (l : List S54) (i : Nat) : rd_T54 l (i : Int) = gN l i := by unfold rd_T54 gN; rw [Int.toNat_natCast]
theorem gN_at (l : List S54) (i : Nat) (h : i < l.length) : gN l i = l[i] := by unfold gN; rw [List.getD_eq_getElem?_getD, List.getElem?_eq_getElem h]; rfl
theorem text_ev (s : ByteArray) : spec_l6Text.f s = some (gTxt s) := by
  unfold spec_l6Text.f gTxt
  by_cases c : (s.size : Int) ≥ 1
  · rw [if_pos c, decide_eq_true (show 1 ≤ (s.size : Int) from c), Bool.true_and]
  · rw [if_neg c, decide_eq_false (show ¬ 1 ≤ (s.size : Int) from c), Bool.false_and]
theorem good_ev (x : S54) : Ev (fun k => spec_l6GoodNode.f k x.f0 x.f1 x.f2) (gP x) := by
  obtain ⟨a, s, t⟩ := x
  have j0t : Ev (fun k => spec_l6GoodNode.j0 k a true a s t) (noT s && noT t) := by
    refine Ev.step (f := fun _ => some (noT s && noT t)) (fun K => ?_) (Ev.now _)
    simp only [spec_l6GoodNode.j0]
    rw [if_pos trivial]
    unfold noT
    by_cases c : s.toList = []
    · rw [if_pos c, beq_iff_eq.2 c, Bool.true_and]
    · rw [if_neg c, beq_eq_false_iff_ne.2 c, Bool.false_and]
  have j1t : Ev (fun k => spec_l6GoodNode.j1 k a true a s t) (gTxt s && noT t) := by
    refine Ev.step (f := fun _ => some (gTxt s && noT t)) (fun K => ?_) (Ev.now _)
    simp only [spec_l6GoodNode.j1]
    rw [if_pos trivial, text_ev, Option.bind_some]
    cases gTxt s
    · rw [if_neg (by decide)]; rfl
    · rw [if_pos rfl]; rfl
  have j1f : Ev (fun k => spec_l6GoodNode.j1 k a false a s t) (if a = 5 then gTxt s && gTxt t else false) := by
    refine Ev.step (f := fun _ => some (if a = 5 then gTxt s && gTxt t else false)) (fun K => ?_) (Ev.now _)
    simp only [spec_l6GoodNode.j1]
    rw [if_neg (by decide)]
    by_cases c : a = 5
    · rw [if_pos c, if_pos c, text_ev, text_ev, Option.bind_some]
      cases gTxt s
      · rw [if_neg (by decide)]; rfl
      · rw [if_pos rfl]; rfl
    · rw [if_neg c, if_neg c]
  have j0f : Ev (fun k => spec_l6GoodNode.j0 k a false a s t) (if a = 2 ∨ a = 3 ∨ a = 4 ∨ a = 9 then gTxt s && noT t else if a = 5 then gTxt s && gTxt t else false) := by
    refine Ev.step (f := fun k => if a = 2 then spec_l6GoodNode.j1 k a (a == 2) a s t else (if a = 3 then spec_l6GoodNode.j1 k a (a == 3) a s t else (if a = 4 then spec_l6GoodNode.j1 k a (a == 4) a s t else spec_l6GoodNode.j1 k a (a == 9) a s t))) (fun K => ?_) ?_
    · simp only [spec_l6GoodNode.j0]
      rw [if_neg (by decide)]
    · by_cases c2 : a = 2
      · rw [if_pos (by omega)]
        exact Ev.congr (fun K => by rw [if_pos c2, beq_iff_eq.2 c2]) j1t
      by_cases c3 : a = 3
      · rw [if_pos (by omega)]
        exact Ev.congr (fun K => by rw [if_neg c2, if_pos c3, beq_iff_eq.2 c3]) j1t
      by_cases c4 : a = 4
      · rw [if_pos (by omega)]
        exact Ev.congr (fun K => by rw [if_neg c2, if_neg c3, if_pos c4, beq_iff_eq.2 c4]) j1t
      by_cases c9 : a = 9
      · rw [if_pos (by omega)]
        exact Ev.congr (fun K => by rw [if_neg c2, if_neg c3, if_neg c4, beq_iff_eq.2 c9]) j1t
      · rw [if_neg (by omega)]
        exact Ev.congr (fun K => by rw [if_neg c2, if_neg c3, if_neg c4, beq_eq_false_iff_ne.2 c9]) j1f
  unfold spec_l6GoodNode.f gP
  dsimp only
  by_cases c1 : a = 1
  · rw [if_pos (by omega)]
    exact Ev.congr (fun K => by rw [if_pos c1, beq_iff_eq.2 c1]) j0t
  by_cases c6 : a = 6
  · rw [if_pos (by omega)]
    exact Ev.congr (fun K => by rw [if_neg c1, if_pos c6, beq_iff_eq.2 c6]) j0t
  by_cases c7 : a = 7
  · rw [if_pos (by omega)]
    exact Ev.congr (fun K => by rw [if_neg c1, if_neg c6, if_pos c7, beq_iff_eq.2 c7]) j0t
  by_cases c8 : a = 8
  · rw [if_pos (by omega)]
    exact Ev.congr (fun K => by rw [if_neg c1, if_neg c6, if_neg c7, beq_iff_eq.2 c8]) j0t
  · rw [if_neg (by omega)]
    exact Ev.congr (fun K => by rw [if_neg c1, if_neg c6, if_neg c7, beq_eq_false_iff_ne.2 c8]) j0f
def frI (n : Nat) (r : List S54) : Int := match fr n r with | some j => (j : Int) | none => -1
theorem from_loop (l : List S54) (hl : l.length ≤ 1048576) (hg : ∀ x ∈ l, gP x = true) : ∀ (i n : Nat), i ≤ l.length → n ≤ 2 * 1048576 + 1 - i → Ev (fun k => spec_l6From.l0 k l (n : Int) (i : Int)) (frI n (l.take i).reverse) := by
  intro i
  induction i with
  | zero =>
    intro n _ _
    cases n with
    | zero => exact Ev.step (f := fun _ => some 0) (fun K => by simp only [spec_l6From.l0]; rw [if_neg (by omega)]; rfl) (Ev.now _)
    | succ n => exact Ev.step (f := fun _ => some (-1)) (fun K => by simp only [spec_l6From.l0]; rw [if_pos (by omega), if_pos (by unfold wrap64; omega)]) (Ev.now _)
  | succ i ih =>
    intro n hi hn
    cases n with
    | zero =>
      refine Ev.step (f := fun _ => some ((i + 1 : Nat) : Int)) (fun K => by simp only [spec_l6From.l0]; rw [if_neg (by omega)]) ?_
      unfold frI
      rw [fr_zero]
      simp only [List.length_reverse, List.length_take, Nat.min_eq_left hi]
      exact Ev.now _
    | succ n =>
      have hx : gP (gN l i) = true := hg _ (by rw [gN_at l i (by omega)]; exact List.getElem_mem _)
      have ha := ar_ev (gP_kind hx).1 (gP_kind hx).2
      have ha2 := arN_le (gN l i).f0
      have hw : wrap64 (((i + 1 : Nat) : Int) - 1) = (i : Int) := by unfold wrap64; omega
      have hw2 : wrap64 ((wrap64 (((n + 1 : Nat) : Int) - 1)) + ((arN (gN l i).f0 : Nat) : Int)) = ((n + arN (gN l i).f0 : Nat) : Int) := by unfold wrap64; omega
      have e : (l.take (i + 1)).reverse = gN l i :: (l.take i).reverse := by
        rw [List.take_succ_eq_append_getElem (by omega), List.reverse_append, gN_at l i (by omega)]
        rfl
      rw [e]
      unfold frI
      simp only [fr]
      refine Ev.step (fun K => by simp only [spec_l6From.l0]; rw [if_pos (by omega), hw, if_neg (by omega), if_pos (by omega), if_pos (by omega), gN_rd, ha, Option.bind_some, hw2]) ?_
      exact ih (n + arN (gN l i).f0) (by omega) (by omega)
theorem from_ev (l : List S54) (hl : l.length ≤ 1048576) (hg : ∀ x ∈ l, gP x = true) : Ev (fun k => spec_l6From.f k l) (frI 1 l.reverse) := by
  have h := from_loop l hl hg l.length 1 (Nat.le_refl _) (by omega)
  rw [List.take_length] at h
  exact h
theorem from_toks (p : List S54) (t : PT) (ht : t.ok) (hl : (p ++ t.toks).length ≤ 1048576) (hg : ∀ x ∈ p ++ t.toks, gP x = true) : Ev (fun k => spec_l6From.f k (p ++ t.toks)) (p.length : Int) := by
  have h := from_ev _ hl hg
  unfold frI at h
  rw [List.reverse_append, fr_toks t 0 _ ht, fr_zero, List.length_reverse] at h
  exact h
mutual
theorem toks_good : ∀ (t : PT), t.ok → ∀ x ∈ t.toks, gP x = true
  | .mk x i ks, h, y, hy => by
    simp only [PT.ok] at h
    simp only [PT.toks, List.mem_append, List.mem_singleton] at hy
    rcases hy with hy | rfl
    · exact toksL_good ks h.2.2 y hy
    · exact h.1
theorem toksL_good : ∀ (ts : List PT), PT.okL ts → ∀ x ∈ PT.toksL ts, gP x = true
  | [], _, y, hy => by simp [PT.toksL] at hy
  | t :: ts, h, y, hy => by
    simp only [PT.okL] at h
    simp only [PT.toksL, List.mem_append] at hy
    rcases hy with hy | hy
    · exact toks_good t h.1 y hy
    · exact toksL_good ts h.2 y hy
end
theorem kids_ev (x : S54) (i : Nat) (ks : List PT) (h : (PT.mk x i ks).ok) (hl : (PT.mk x i ks).toks.length ≤ 1048576) : Ev (fun k => spec_l6Kids.f k (PT.mk x i ks).toks) (ks.map PT.toks) := by
  have hg := toks_good _ h
  simp only [PT.ok] at h
  simp only [PT.toks] at hl hg ⊢
  have hlen : (PT.toksL ks ++ [x]).length = (PT.toksL ks).length + 1 := by simp
  have hw : wrap64 (((PT.toksL ks ++ [x]).length : Int) - 1) = ((PT.toksL ks).length : Int) := by unfold wrap64; omega
  have hx : gN (PT.toksL ks ++ [x]) (PT.toksL ks).length = x := by rw [gN_at _ _ (by omega)]; simp
  have ha := ar_ev (gP_kind h.1).1 (gP_kind h.1).2
  have ht : (PT.toksL ks ++ [x]).take ((PT.toksL ks).length : Int).toNat = PT.toksL ks := by rw [Int.toNat_natCast]; exact List.take_left' rfl
  unfold spec_l6Kids.f
  refine Ev.congr (fun K => by rw [hw, if_pos (by omega), if_pos (by omega), if_pos (by omega), gN_rd, hx, ha, Option.bind_some, ht]) ?_
  rw [← h.2.1]
  have hgk : ∀ y ∈ PT.toksL ks, gP y = true := fun y hy => hg y (List.mem_append_left _ hy)
  have hlk : (PT.toksL ks).length ≤ 1048576 := by omega
  have h2 := arN_le x.f0
  rw [← h.2.1] at h2
  have hok := h.2.2
  clear hg hl hw hx ha ht h
  have stp : ∀ (p : List S54) (t : PT) (out : List (List S54)) (n : Nat) (R : List (List S54)), t.ok → (∀ y ∈ p ++ t.toks, gP y = true) → (p ++ t.toks).length ≤ 1048576 → out.length ≤ 2 → n ≤ 2 →
      Ev (fun k => spec_l6Kids.l0 k p (t.toks :: out) (n : Int)) R → Ev (fun k => spec_l6Kids.l0 k (p ++ t.toks) out ((n + 1 : Nat) : Int)) R := by
    intro p t out n R ht hg hl ho hn hR
    have hf := from_toks p t ht hl hg
    have hd : (p ++ t.toks).drop ((p.length : Int).toNat) = t.toks := by rw [Int.toNat_natCast]; exact List.drop_left' rfl
    have hk : (p ++ t.toks).take ((p.length : Int).toNat) = p := by rw [Int.toNat_natCast]; exact List.take_left' rfl
    have hlen2 : (p ++ t.toks).length = p.length + t.toks.length := List.length_append
    have hw : wrap64 (((n + 1 : Nat) : Int) - 1) = (n : Int) := by unfold wrap64; omega
    refine Ev.step (fun K => by simp only [spec_l6Kids.l0]; rw [if_pos (by omega)]) ?_
    refine Ev.bind hf ?_
    exact Ev.congr (fun K => by rw [if_pos (by omega), if_pos (by omega), Option.bind_some, if_pos (by simp; omega), hd, hk, hw]; rfl) hR
  have fin : ∀ (p : List S54) (out : List (List S54)), Ev (fun k => spec_l6Kids.l0 k p out ((0 : Nat) : Int)) out := fun p out =>
    Ev.step (f := fun _ => some out) (fun K => by simp only [spec_l6Kids.l0]; rw [if_neg (by omega)]) (Ev.now _)
  match ks, h2, hok, hgk, hlk with
  | [], _, _, _, _ => exact fin _ _
  | [a], _, hok, hgk, hlk =>
    simp only [PT.okL, PT.toksL, List.append_nil, and_true] at hok hgk hlk ⊢
    exact stp [] a [] 0 [a.toks] hok hgk hlk (by decide) (by decide) (fin _ _)
  | [a, b], _, hok, hgk, hlk =>
    simp only [PT.okL, PT.toksL, List.append_nil, and_true] at hok hgk hlk ⊢
    exact stp a.toks b [] 1 [a.toks, b.toks] hok.2 hgk hlk (by decide) (by decide) (stp [] a [b.toks] 0 _ hok.1 (fun y hy => hgk y (List.mem_append_left _ hy)) (by have h9 := hlk; rw [List.length_append] at h9; simp; omega) (by simp) (by omega) (fin _ _))
theorem rdL_at (L : List (List S54)) (i : Nat) (h : i < L.length) : rd_L4 L (i : Int) = L[i] := by
  unfold rd_L4
  rw [Int.toNat_natCast, List.getD_eq_getElem?_getD, List.getElem?_eq_getElem h]; rfl
mutual
theorem toks_pos : ∀ (t : PT), 1 ≤ t.toks.length
  | .mk x i ks => by simp [PT.toks]
end
mutual
theorem height_ev : ∀ (t : PT), t.ok → t.toks.length ≤ 1048576 → Ev (fun k => spec_l6Height.f k t.toks) (t.hgt : Int) ∧ (t.hgt : Int) ≤ 1048576
  | .mk x i ks, h, hl => by
    have hk := kids_ev x i ks h hl
    have hlk : (PT.toksL ks).length + 1 ≤ 1048576 := by simpa [PT.toks] using hl
    have hok : PT.okL ks := by simp only [PT.ok] at h; exact h.2.2
    obtain ⟨hL, hB, hC⟩ := heightL_ev ks hok (by omega)
    have h0 := hL [] 0 (by simp; omega) (by omega)
    simp only [PT.hgt]
    refine ⟨Ev.step (f := fun k => (spec_l6Kids.f k (PT.mk x i ks).toks).bind fun t139 => spec_l6Height.l0 k t139 0 0) (fun K => by simp only [spec_l6Height.f]) (Ev.bind hk ?_), by omega⟩
    simpa using h0
theorem heightL_ev : ∀ (ts : List PT), PT.okL ts → (PT.toksL ts).length ≤ 1048575 →
    (∀ (pre : List PT) (m : Nat), pre.length + ts.length ≤ 1048576 → m ≤ 1048576 → Ev (fun k => spec_l6Height.l0 k ((pre ++ ts).map PT.toks) (m : Int) (pre.length : Int)) ((max m (PT.hgtL ts) + 1 : Nat) : Int)) ∧ PT.hgtL ts ≤ (PT.toksL ts).length ∧ ts.length ≤ (PT.toksL ts).length
  | [], h, hl => by
    refine ⟨fun pre m hp hm => ?_, by simp [PT.hgtL], by simp⟩
    refine Ev.step (f := fun _ => some ((m + 1 : Nat) : Int)) (fun K => by simp only [spec_l6Height.l0]; rw [if_neg (by simp), show wrap64 ((m : Int) + 1) = ((m + 1 : Nat) : Int) by unfold wrap64; omega]) ?_
    simp only [PT.hgtL, Nat.max_zero]
    exact Ev.now _
  | t :: ts, h, hl => by
    simp only [PT.okL] at h
    simp only [PT.toksL, List.length_append] at hl
    obtain ⟨h1, h1b⟩ := height_ev t h.1 (by omega)
    obtain ⟨h2, h3, h4⟩ := heightL_ev ts h.2 (by omega)
    have hpos := toks_pos t
    have ht : t.hgt ≤ t.toks.length := hgt_le t h.1
    refine ⟨fun pre m hp hm => ?_, by simp only [PT.hgtL, PT.toksL, List.length_append]; omega, by simp only [PT.toksL, List.length_append, List.length_cons]; omega⟩
    have hp' : pre.length + (ts.length + 1) ≤ 1048576 := by simpa using hp
    have hlen : ((pre ++ t :: ts).map PT.toks).length = pre.length + ts.length + 1 := by simp; omega
    have hr : rd_L4 ((pre ++ t :: ts).map PT.toks) (pre.length : Int) = t.toks := by
      rw [rdL_at _ _ (by omega)]
      simp
    have hw : wrap64 ((pre.length : Int) + 1) = ((pre ++ [t]).length : Int) := by
      have : (pre ++ [t]).length = pre.length + 1 := by simp
      unfold wrap64; omega
    have hpl : (pre ++ [t]).length = pre.length + 1 := by simp
    have e1 : pre ++ t :: ts = (pre ++ [t]) ++ ts := by simp
    refine Ev.step (fun K => by simp only [spec_l6Height.l0]; rw [if_pos (by omega), if_pos (by omega), hr, hw]) ?_
    refine Ev.bind h1 ?_
    simp only [PT.hgtL]
    by_cases c : (t.hgt : Int) > (m : Int)
    · refine Ev.congr (fun K => by rw [if_pos c, e1]) ?_
      have := h2 (pre ++ [t]) t.hgt (by simp at hp ⊢; omega) (by omega)
      rwa [show max m (max t.hgt (PT.hgtL ts)) = max t.hgt (PT.hgtL ts) by omega]
    · refine Ev.congr (fun K => by rw [if_neg c, e1]) ?_
      have := h2 (pre ++ [t]) m (by simp at hp ⊢; omega) (by omega)
      rwa [show max m (max t.hgt (PT.hgtL ts)) = max m (PT.hgtL ts) by omega]
theorem hgt_le : ∀ (t : PT), t.ok → t.hgt ≤ t.toks.length
  | .mk x i ks, h => by
    simp only [PT.ok] at h
    simp only [PT.hgt, PT.toks, List.length_append, List.length_singleton]
    have := hgtL_le ks h.2.2
    omega
theorem hgtL_le : ∀ (ts : List PT), PT.okL ts → PT.hgtL ts ≤ (PT.toksL ts).length
  | [], _ => by simp [PT.hgtL]
  | t :: ts, h => by
    simp only [PT.okL] at h
    simp only [PT.hgtL, PT.toksL, List.length_append]
    have := hgt_le t h.1
    have := hgtL_le ts h.2
    omega
end
theorem run_frI (l : List S54) (hg : ∀ x ∈ l, gP x = true) : (frI 1 l.reverse = 0 ↔ ∃ t, runP l 0 [] = some [t]) := by
  unfold frI
  have h0 : (match fr 1 l.reverse with | some j => (j : Int) | none => -1) = 0 ↔ fr 1 l.reverse = some 0 := by
    cases fr 1 l.reverse with
    | none => simp
    | some j => simp only [Option.some.injEq]; omega
  rw [h0, fr_sl l 1]
  constructor
  · intro h
    cases hr : runP l 0 [] with
    | none => have h9 := runP_none l 0 [] hr; rw [List.length_nil, h] at h9; cases h9
    | some st =>
      have := (runP_ok l 0 [] st hg trivial hr).2.2
      rw [List.length_nil, h] at this
      have hlen : st.length = 1 := (Option.some.inj this).symm
      match st, hlen with
      | [t], _ => exact ⟨t, rfl⟩
  · rintro ⟨t, ht⟩
    exact (runP_ok l 0 [] [t] hg trivial ht).2.2
theorem validPath_loop (l : List S54) (hl : l.length ≤ 100) (h1 : 1 ≤ l.length) : ∀ (d i : Nat), i + d = l.length → (∀ j, j < i → gP (gN l j) = true) → Ev (fun k => spec_ValidPath.l0 k (i : Int) l) (treeP l).isSome := by
  intro d
  induction d with
  | zero =>
    intro i hi hj
    have hg : ∀ x ∈ l, gP x = true := fun x hx => by
      obtain ⟨j, hj1, rfl⟩ := List.getElem_of_mem hx
      have := hj j (by omega)
      rwa [gN_at l j hj1] at this
    have hall : l.all gP = true := List.all_eq_true.2 hg
    refine Ev.step (fun K => by simp only [spec_ValidPath.l0]; rw [if_neg (by omega)]) ?_
    refine Ev.bind (from_ev l (by omega) hg) ?_
    unfold treeP
    rw [if_pos ⟨hl, hall⟩]
    by_cases c : frI 1 l.reverse = 0
    · obtain ⟨t, ht⟩ := (run_frI l hg).1 c
      obtain ⟨hok, htk, _⟩ := runP_ok l 0 [] [t] hg trivial ht
      simp only [PT.okL, and_true] at hok
      simp only [PT.toksL, List.append_nil, List.nil_append] at htk
      have hh := height_ev t hok (by rw [htk]; omega)
      rw [htk] at hh
      refine Ev.congr (fun K => by rw [if_pos c]) (Ev.bind hh.1 ?_)
      rw [ht]
      simp only
      by_cases c2 : t.hgt ≤ 64
      · rw [if_pos c2]
        exact Ev.congr (fun K => by rw [decide_eq_true (by omega)]; rfl) (Ev.now _)
      · rw [if_neg c2]
        exact Ev.congr (fun K => by rw [decide_eq_false (by omega)]; rfl) (Ev.now _)
    · have hn : ∀ t, runP l 0 [] ≠ some [t] := fun t ht => c ((run_frI l hg).2 ⟨t, ht⟩)
      refine Ev.congr (f := fun _ => some false) (fun K => by rw [if_neg c]) ?_
      cases hr : runP l 0 [] with
      | none => exact Ev.now _
      | some st =>
        match st, hr with
        | [], _ => exact Ev.now _
        | [t], hr => exact absurd hr (hn t)
        | _ :: _ :: _, _ => exact Ev.now _
  | succ d ih =>
    intro i hi hj
    refine Ev.step (fun K => by simp only [spec_ValidPath.l0]; rw [if_pos (by omega), if_pos (by omega), gN_rd]) ?_
    refine Ev.bind (good_ev (gN l i)) ?_
    by_cases c : gP (gN l i) = true
    · refine Ev.congr (fun K => by rw [if_pos c, show wrap64 ((i : Int) + 1) = ((i + 1 : Nat) : Int) by unfold wrap64; omega]) ?_
      refine ih (i + 1) (by omega) (fun j hj2 => ?_)
      rcases Nat.lt_or_ge j i with h | h
      · exact hj j h
      · obtain rfl : j = i := by omega
        exact c
    · refine Ev.congr (f := fun _ => some false) (fun K => by rw [if_neg c]) ?_
      have : (treeP l).isSome = false := by
        unfold treeP
        rw [if_neg]
        · rfl
        · rintro ⟨_, h⟩
          refine c (List.all_eq_true.1 h _ ?_)
          rw [gN_at l i (by omega)]
          exact List.getElem_mem _
      rw [this]
      exact Ev.now _
theorem validPath_ev (l : List S54) : Ev (fun k => spec_ValidPath.f k l) (treeP l).isSome := by
  have jt : Ev (fun k => spec_ValidPath.j0 k true l) false := Ev.step (fun K => by simp only [spec_ValidPath.j0]; rw [if_pos trivial]) (Ev.now _)
  unfold spec_ValidPath.f
  by_cases c : (l.length : Int) < 1
  · have : l = [] := List.length_eq_zero_iff.1 (by omega)
    subst this
    exact Ev.congr (fun K => by rw [if_pos c]) jt
  refine Ev.congr (fun K => by rw [if_neg c]) ?_
  by_cases c2 : (l.length : Int) > 100
  · have : (treeP l).isSome = false := by
      unfold treeP
      rw [if_neg (by rintro ⟨h, _⟩; omega)]
      rfl
    rw [this]
    exact Ev.congr (fun K => by rw [decide_eq_true c2]) jt
  · refine Ev.congr (fun K => by rw [decide_eq_false c2]) ?_
    exact Ev.step (fun K => by simp only [spec_ValidPath.j0]; rw [if_neg (by decide)]; rfl) (validPath_loop l (by omega) (by omega) l.length 0 (by omega) (fun j hj => absurd hj (Nat.not_lt_zero _)))

/-! ### L_blocks: a text by hand -/
theorem blk_newB {w W : World} {o : Obj} (hb : Below (w.alloc o).heap.size (w.alloc o) W) : W.heap[w.heap.size]? = some o := blk_below (blk_new w o) hb
theorem blk_new2 (w : World) (a b : Obj) : ((w.alloc a).alloc b).heap[w.heap.size + 1]? = some b := by
  have h := blk_new (w.alloc a) b
  rw [show (w.alloc a).heap.size = w.heap.size + 1 from by simp] at h
  exact h

/-! ### impl_goodText: function 84 -/
def impl_goodText.f (a0 : ByteArray) : Option (Bool) := if (a0.size : Int) ≥ 1 then (some (decide ((a0.size : Int) ≤ 30))) else (some false)
set_option maxHeartbeats 8000000 in
set_option maxRecDepth 100000 in
theorem impl_goodText.calls (a0 : ByteArray) (r : Bool) (w : World) (h : impl_goodText.f a0 = some r) :
    Calls Try.prog 84 #[.string a0] w fun e w' => e = .returned (.bool r) ∧ Drawn0 w w' := by
  have H : (if (a0.size : Int) ≥ 1 then (some (decide ((a0.size : Int) ≤ 30))) else (some false)) = some r := h
  clear h
  by_cases c2 : (a0.size : Int) ≥ 1
  · rw [if_pos c2] at H
    have c2b0 : decide (1 ≤ (a0.size : Int)) = true := decide_eq_true c2
    have c2b1 : decide (1 ≤ a0.size) = true := decide_eq_true (by omega)
    clear c2
    obtain rfl := Option.some.inj H
    go_enter Try.func84, Try.ntmps84
    go_wp2
    go_ret
    exact ⟨by first | rfl | (simp; done) | (simp [*]; done), by repeat (first | exact Drawn0.refl _ | apply Drawn0.step)⟩
  · rw [if_neg c2] at H
    have c2b0 : decide (1 ≤ (a0.size : Int)) = false := decide_eq_false c2
    have c2b1 : decide (1 ≤ a0.size) = false := decide_eq_false (by omega)
    clear c2
    obtain rfl := Option.some.inj H
    go_enter Try.func84, Try.ntmps84
    go_wp2
    go_ret
    exact ⟨by first | rfl | (simp; done) | (simp [*]; done), by repeat (first | exact Drawn0.refl _ | apply Drawn0.step)⟩

/-- THE ONE PURE STATEMENT of impl_goodText: yours. -/
def impl_goodText.Pure : Prop := ∀ (a0 : ByteArray), a0.size ≤ 140737488351232 → impl_goodText.f a0 = some true
theorem impl_goodText.walk (P : impl_goodText.Pure) (a0 : ByteArray) (w : World) (w0 : a0.size ≤ 140737488351232) :
    Calls Try.prog 84 #[.string a0] w fun e w' => e = .returned (.bool true) ∧ Below w.heap.size w w' := by
  have h := P a0 w0
  refine (impl_goodText.calls a0 true w h).mono ?_
  rintro e w' ⟨rfl, hd⟩
  exact ⟨rfl, hd.below⟩

/-! ### impl_PNode_good: function 61 -/
mutual
def impl_PNode_good.j0 : Nat → Int → Bool → Int → ByteArray → ByteArray → Option (Bool)
  | 0, _, _, _, _, _ => none
  | k + 1, x4, x5, x195000, x195001, x195002 => if x5 = true then (if x195001.toList = ([] : List UInt8) then (some (x195002.toList == ([] : List UInt8))) else (some false)) else (if x4 = 2 then (impl_PNode_good.j1 k x4 (x4 == 2) x195000 x195001 x195002) else (if x4 = 3 then (impl_PNode_good.j1 k x4 (x4 == 3) x195000 x195001 x195002) else (if x4 = 4 then (impl_PNode_good.j1 k x4 (x4 == 4) x195000 x195001 x195002) else (impl_PNode_good.j1 k x4 (x4 == 9) x195000 x195001 x195002))))
def impl_PNode_good.j1 : Nat → Int → Bool → Int → ByteArray → ByteArray → Option (Bool)
  | 0, _, _, _, _, _ => none
  | k + 1, x4, x18, x195000, x195001, x195002 => if x18 = true then ((impl_goodText.f x195001).bind fun t195 => (if t195 = true then (some (x195002.toList == ([] : List UInt8))) else (some false))) else (if x4 = 5 then ((impl_goodText.f x195001).bind fun t196 => (if t196 = true then ((impl_goodText.f x195002).bind fun t197 => (some t197)) else (some false))) else (some false))
end
def impl_PNode_good.f (k : Nat) (a0_0 : Int) (a0_1 : ByteArray) (a0_2 : ByteArray) : Option (Bool) := if a0_0 = 1 then (impl_PNode_good.j0 k a0_0 (a0_0 == 1) a0_0 a0_1 a0_2) else (if a0_0 = 6 then (impl_PNode_good.j0 k a0_0 (a0_0 == 6) a0_0 a0_1 a0_2) else (if a0_0 = 7 then (impl_PNode_good.j0 k a0_0 (a0_0 == 7) a0_0 a0_1 a0_2) else (impl_PNode_good.j0 k a0_0 (a0_0 == 8) a0_0 a0_1 a0_2)))
theorem impl_PNode_good.mono_l : ∀ k, (∀ y0 y1 y2 y3 y4, LeO (impl_PNode_good.j0 k y0 y1 y2 y3 y4) (impl_PNode_good.j0 (k + 1) y0 y1 y2 y3 y4)) ∧ (∀ y0 y1 y2 y3 y4, LeO (impl_PNode_good.j1 k y0 y1 y2 y3 y4) (impl_PNode_good.j1 (k + 1) y0 y1 y2 y3 y4))
  | 0 => ⟨fun _ _ _ _ _ r h => by simp [impl_PNode_good.j0] at h, fun _ _ _ _ _ r h => by simp [impl_PNode_good.j1] at h⟩
  | k + 1 => by
    obtain ⟨ih0, ih1⟩ := impl_PNode_good.mono_l k
    refine ⟨?_, ?_⟩
    · intro y0 y1 y2 y3 y4
      unfold impl_PNode_good.j0
      repeat' first
      | (with_reducible exact ih0 _ _ _ _ _)
      | (with_reducible exact ih1 _ _ _ _ _)
      | (with_reducible exact LeO.refl _)
      | (with_reducible exact LeO.none _)
      | (with_reducible refine LeO.ite ?_ ?_)
      | (with_reducible refine LeO.bind ?_ (fun _ => ?_))
      | exact ih0 _ _ _ _ _
      | exact ih1 _ _ _ _ _
      | exact LeO.none _
      | refine LeO.ite ?_ ?_
      | refine LeO.bind ?_ (fun _ => ?_)
    · intro y0 y1 y2 y3 y4
      unfold impl_PNode_good.j1
      repeat' first
      | (with_reducible exact ih0 _ _ _ _ _)
      | (with_reducible exact ih1 _ _ _ _ _)
      | (with_reducible exact LeO.refl _)
      | (with_reducible exact LeO.none _)
      | (with_reducible refine LeO.ite ?_ ?_)
      | (with_reducible refine LeO.bind ?_ (fun _ => ?_))
      | exact ih0 _ _ _ _ _
      | exact ih1 _ _ _ _ _
      | exact LeO.none _
      | refine LeO.ite ?_ ?_
      | refine LeO.bind ?_ (fun _ => ?_)
theorem impl_PNode_good.mono : ∀ a0 a1 a2 k, LeO (impl_PNode_good.f k a0 a1 a2) (impl_PNode_good.f (k + 1) a0 a1 a2) := by
  intro a0 a1 a2 k
  obtain ⟨ih0, ih1⟩ := impl_PNode_good.mono_l k
  unfold impl_PNode_good.f
  repeat' first
      | (with_reducible exact ih0 _ _ _ _ _)
      | (with_reducible exact ih1 _ _ _ _ _)
      | (with_reducible exact LeO.refl _)
      | (with_reducible exact LeO.none _)
      | (with_reducible refine LeO.ite ?_ ?_)
      | (with_reducible refine LeO.bind ?_ (fun _ => ?_))
      | exact ih0 _ _ _ _ _
      | exact ih1 _ _ _ _ _
      | exact LeO.none _
      | refine LeO.ite ?_ ?_
      | refine LeO.bind ?_ (fun _ => ?_)
set_option maxHeartbeats 8000000 in
set_option maxRecDepth 100000 in
theorem impl_PNode_good.calls (k : Nat) (a0_0 : Int) (a0_1 : ByteArray) (a0_2 : ByteArray) (r : Bool) (w : World) (h : impl_PNode_good.f k a0_0 a0_1 a0_2 = some r) :
    Calls Try.prog 61 #[.agg #[.int .i64 a0_0, .string a0_1, .string a0_2]] w fun e w' => e = .returned (.bool r) ∧ Below w.heap.size w w' := by
  have hu54 := Try.underlying54
  have HB := Aside0.mk (Below.refl w.heap.size w)
  have H : (if a0_0 = 1 then (impl_PNode_good.j0 k a0_0 (a0_0 == 1) a0_0 a0_1 a0_2) else (if a0_0 = 6 then (impl_PNode_good.j0 k a0_0 (a0_0 == 6) a0_0 a0_1 a0_2) else (if a0_0 = 7 then (impl_PNode_good.j0 k a0_0 (a0_0 == 7) a0_0 a0_1 a0_2) else (impl_PNode_good.j0 k a0_0 (a0_0 == 8) a0_0 a0_1 a0_2)))) = some r := h
  clear h
  have HC2 := Aside0.mk H
  clear H
  go_enter Try.func61, Try.ntmps61
  go_upto_if 5 with (first | ((with_reducible refine gate_dst (N := 1) rfl ?_); refine box_event ?hg (N := 1) ?hd (cs := #[.int .i64 a0_0, .string a0_1, .string a0_2]) (t := 54) ?hr ?_; (case hd => rfl); (case hg => rfl); (case hr => first | (go_simp; done) | (go_simp; rfl)); intro gb194 hg w3 hbox hb; have n0_ := Aside0.mk (below_step (by repeat (first | (with_reducible first | exact HB.out | apply below_alloc | apply pw_below_drewN | apply below_drew1) | exact HB.out)) hb); have n1_ := Aside0.mk (hbox); have n2_ := Aside0.mk ((by rw [hg]; exact (below_size (by repeat (first | (with_reducible first | exact HB.out | apply below_alloc | apply pw_below_drewN | apply below_drew1) | exact HB.out))) : w.heap.size ≤ gb194)); have n3_ := Aside0.mk ((by rw [hg]; exact (below_size (by repeat (first | (with_reducible first | exact HB.out | apply below_alloc | apply pw_below_drewN | apply below_drew1) | exact HB.out))) : w.heap.size ≤ gb194)); clear HB; have HB := n0_; have BK194 := n1_; have GW194 := n2_; have GE194 := n3_; clear n0_ n1_ n2_ n3_; clear hb hbox hg; have hcz4_0 : w3.cell? ⟨gb194, 0, none⟩ = some (.int .i64 a0_0) := (blk_cell BK194.out 0).trans rfl; have hcz4_1 : w3.cell? ⟨gb194, 1, none⟩ = some (.string a0_1) := (blk_cell BK194.out 1).trans rfl; have hcz4_2 : w3.cell? ⟨gb194, 2, none⟩ = some (.string a0_2) := (blk_cell BK194.out 2).trans rfl; have hfz4_0 := blk_frozen BK194.out 0; have hfz4_1 := blk_frozen BK194.out 1; have hfz4_2 := blk_frozen BK194.out 2))
  (try simp only [Act.put, List.setIfInBounds_toArray, List.set_cons_zero, List.set_cons_succ])
  go_cut [5] (fun v5 wc => ∃ (kq : Nat) (x5_1 : Bool), v5 = .bool x5_1 ∧ Aside0 (impl_PNode_good.j0 kq a0_0 x5_1 a0_0 a0_1 a0_2 = some r) ∧ Aside0 (kq ≤ k) ∧ Aside0 (wc.heap[gb194]? = some (.cells #[.int .i64 a0_0, .string a0_1, .string a0_2] 54 (0, 0))) ∧ Aside0 (Below w.heap.size w wc))
  case first =>
    have H := HC2.out
    clear HC2
    by_cases c5 : a0_0 = 1
    · rw [if_pos c5] at H
      have c5b0 : (a0_0 == 1) = true := beq_iff_eq.mpr c5
      have c5b1 : (a0_0 != 1) = false := bne_eq_false_iff_eq.mpr c5
      clear c5
      (first | rw [c5b0] | (simp only [i64_w, i32_w]; rw [c5b0]) | skip)
      have H' := Aside0.mk H
      clear H
      go_wp2
      go_meet
      case rel => exact ⟨_, ((a0_0 == 1)), (by first | rfl | (simp; done) | (simp [*]; done)), H', ⟨by first | omega | exact Nat.le_refl _⟩, ⟨by (with_reducible repeat (first | refine blk_drewN ?_ _ | refine blk_drew ?_ | refine blk_alloc ?_ _)); exact BK194.out⟩, ⟨by repeat (first | (with_reducible first | exact HB.out | apply below_alloc | apply pw_below_drewN | apply below_drew1 | refine below_set ?_ GE194.out) | exact HB.out)⟩⟩
    · rw [if_neg c5] at H
      have c5b0 : (a0_0 == 1) = false := beq_eq_false_iff_ne.mpr c5
      have c5b1 : (a0_0 != 1) = true := bne_iff_ne.mpr c5
      (first | rw [c5b0] | (simp only [i64_w, i32_w]; rw [c5b0]) | skip)
      by_cases c6 : a0_0 = 6
      · rw [if_pos c6] at H
        have c6b0 : (a0_0 == 6) = true := beq_iff_eq.mpr c6
        have c6b1 : (a0_0 != 6) = false := bne_eq_false_iff_eq.mpr c6
        clear c6
        have H' := Aside0.mk H
        clear H
        go_wp2
        go_meet
        case rel => exact ⟨_, ((a0_0 == 6)), (by first | rfl | (simp; done) | (simp [*]; done)), H', ⟨by first | omega | exact Nat.le_refl _⟩, ⟨by (with_reducible repeat (first | refine blk_drewN ?_ _ | refine blk_drew ?_ | refine blk_alloc ?_ _)); exact BK194.out⟩, ⟨by repeat (first | (with_reducible first | exact HB.out | apply below_alloc | apply pw_below_drewN | apply below_drew1 | refine below_set ?_ GE194.out) | exact HB.out)⟩⟩
      · rw [if_neg c6] at H
        have c6b0 : (a0_0 == 6) = false := beq_eq_false_iff_ne.mpr c6
        have c6b1 : (a0_0 != 6) = true := bne_iff_ne.mpr c6
        by_cases c7 : a0_0 = 7
        · rw [if_pos c7] at H
          have c7b0 : (a0_0 == 7) = true := beq_iff_eq.mpr c7
          have c7b1 : (a0_0 != 7) = false := bne_eq_false_iff_eq.mpr c7
          clear c7
          have H' := Aside0.mk H
          clear H
          go_wp2
          go_meet
          case rel => exact ⟨_, ((a0_0 == 7)), (by first | rfl | (simp; done) | (simp [*]; done)), H', ⟨by first | omega | exact Nat.le_refl _⟩, ⟨by (with_reducible repeat (first | refine blk_drewN ?_ _ | refine blk_drew ?_ | refine blk_alloc ?_ _)); exact BK194.out⟩, ⟨by repeat (first | (with_reducible first | exact HB.out | apply below_alloc | apply pw_below_drewN | apply below_drew1 | refine below_set ?_ GE194.out) | exact HB.out)⟩⟩
        · rw [if_neg c7] at H
          have c7b0 : (a0_0 == 7) = false := beq_eq_false_iff_ne.mpr c7
          have c7b1 : (a0_0 != 7) = true := bne_iff_ne.mpr c7
          have H' := Aside0.mk H
          clear H
          go_wp2
          go_meet
          case rel => exact ⟨_, ((a0_0 == 8)), (by first | rfl | (simp; done) | (simp [*]; done)), H', ⟨by first | omega | exact Nat.le_refl _⟩, ⟨by (with_reducible repeat (first | refine blk_drewN ?_ _ | refine blk_drew ?_ | refine blk_alloc ?_ _)); exact BK194.out⟩, ⟨by repeat (first | (with_reducible first | exact HB.out | apply below_alloc | apply pw_below_drewN | apply below_drew1 | refine below_set ?_ GE194.out) | exact HB.out)⟩⟩
  case rest =>
    clear HC2
    try clear p2
    try clear c5
    try clear c5b0
    try clear c5b1
    try clear c6
    try clear c6b0
    try clear c6b1
    try clear c7
    try clear c7b0
    try clear c7b1
    try clear hcz4_0
    try clear hcz4_1
    try clear hcz4_2
    try clear hfz4_0
    try clear hfz4_1
    try clear hfz4_2
    obtain ⟨kq, x5_1, rfl, HA, HJ1, BK194, HB⟩ := hcut
    cases kq with
    | zero => exact absurd HA.out (by simp [impl_PNode_good.j0])
    | succ kj1 =>
      have H := HA.out
      clear HA
      simp only [impl_PNode_good.j0] at H
      by_cases c8 : x5_1 = true
      · subst c8
        have H1 : (if a0_1.toList = ([] : List UInt8) then (some (a0_2.toList == ([] : List UInt8))) else (some false)) = some r := by rw [if_pos rfl] at H; exact H
        clear H
        have H := H1
        clear H1
        by_cases c9 : a0_1.toList = ([] : List UInt8)
        · rw [if_pos c9] at H
          have c9b0 : (a0_1.toList == ([] : List UInt8)) = true := beq_iff_eq.mpr c9
          have c9b1 : (a0_1.toList != ([] : List UInt8)) = false := bne_eq_false_iff_eq.mpr c9
          clear c9
          obtain rfl := Option.some.inj H
          have hcz10_0 : wc.cell? ⟨gb194, 0, none⟩ = some (.int .i64 a0_0) := (blk_cell BK194.out 0).trans rfl
          have hcz10_1 : wc.cell? ⟨gb194, 1, none⟩ = some (.string a0_1) := (blk_cell BK194.out 1).trans rfl
          have hcz10_2 : wc.cell? ⟨gb194, 2, none⟩ = some (.string a0_2) := (blk_cell BK194.out 2).trans rfl
          have hfz10_0 := blk_frozen BK194.out 0
          have hfz10_1 := blk_frozen BK194.out 1
          have hfz10_2 := blk_frozen BK194.out 2
          go_wp2
          go_ret
          exact ⟨by first | rfl | (simp [errW_none, errW_some] <;> rfl) | (simp [*, errW_none, errW_some] <;> rfl), by repeat (first | (with_reducible first | exact HB.out | apply below_alloc | apply pw_below_drewN | apply below_drew1 | refine below_set ?_ GE194.out) | exact HB.out)⟩
        · rw [if_neg c9] at H
          have c9b0 : (a0_1.toList == ([] : List UInt8)) = false := beq_eq_false_iff_ne.mpr c9
          have c9b1 : (a0_1.toList != ([] : List UInt8)) = true := bne_iff_ne.mpr c9
          obtain rfl := Option.some.inj H
          have hcz11_0 : wc.cell? ⟨gb194, 0, none⟩ = some (.int .i64 a0_0) := (blk_cell BK194.out 0).trans rfl
          have hcz11_1 : wc.cell? ⟨gb194, 1, none⟩ = some (.string a0_1) := (blk_cell BK194.out 1).trans rfl
          have hcz11_2 : wc.cell? ⟨gb194, 2, none⟩ = some (.string a0_2) := (blk_cell BK194.out 2).trans rfl
          have hfz11_0 := blk_frozen BK194.out 0
          have hfz11_1 := blk_frozen BK194.out 1
          have hfz11_2 := blk_frozen BK194.out 2
          go_wp2
          go_ret
          exact ⟨by first | rfl | (simp [errW_none, errW_some] <;> rfl) | (simp [*, errW_none, errW_some] <;> rfl), by repeat (first | (with_reducible first | exact HB.out | apply below_alloc | apply pw_below_drewN | apply below_drew1 | refine below_set ?_ GE194.out) | exact HB.out)⟩
      · replace c8 := Bool.eq_false_iff.mpr c8
        subst c8
        have H1 : (if a0_0 = 2 then (impl_PNode_good.j1 kj1 a0_0 (a0_0 == 2) a0_0 a0_1 a0_2) else (if a0_0 = 3 then (impl_PNode_good.j1 kj1 a0_0 (a0_0 == 3) a0_0 a0_1 a0_2) else (if a0_0 = 4 then (impl_PNode_good.j1 kj1 a0_0 (a0_0 == 4) a0_0 a0_1 a0_2) else (impl_PNode_good.j1 kj1 a0_0 (a0_0 == 9) a0_0 a0_1 a0_2)))) = some r := by rw [if_neg (show ¬ (false = true) by decide)] at H; exact H
        clear H
        have H := H1
        clear H1
        have HC12 := Aside0.mk H
        clear H
        go_upto_if 18 with (fail)
        go_cut [18] (fun v18 wc => ∃ (kq : Nat) (x18_11 : Bool), v18 = .bool x18_11 ∧ Aside0 (impl_PNode_good.j1 kq a0_0 x18_11 a0_0 a0_1 a0_2 = some r) ∧ Aside0 (kq ≤ kj1) ∧ Aside0 (wc.heap[gb194]? = some (.cells #[.int .i64 a0_0, .string a0_1, .string a0_2] 54 (0, 0))) ∧ Aside0 (Below w.heap.size w wc))
        case first =>
          have H := HC12.out
          clear HC12
          by_cases c13 : a0_0 = 2
          · rw [if_pos c13] at H
            have c13b0 : (a0_0 == 2) = true := beq_iff_eq.mpr c13
            have c13b1 : (a0_0 != 2) = false := bne_eq_false_iff_eq.mpr c13
            clear c13
            (first | rw [c13b0] | (simp only [i64_w, i32_w]; rw [c13b0]) | skip)
            have H' := Aside0.mk H
            clear H
            go_wp2
            go_meet
            case rel => exact ⟨_, ((a0_0 == 2)), (by first | rfl | (simp; done) | (simp [*]; done)), H', ⟨by have := HJ1.out; first | omega | exact Nat.le_refl _⟩, ⟨by (with_reducible repeat (first | refine blk_drewN ?_ _ | refine blk_drew ?_ | refine blk_alloc ?_ _)); exact BK194.out⟩, ⟨by repeat (first | (with_reducible first | exact HB.out | apply below_alloc | apply pw_below_drewN | apply below_drew1 | refine below_set ?_ GE194.out) | exact HB.out)⟩⟩
          · rw [if_neg c13] at H
            have c13b0 : (a0_0 == 2) = false := beq_eq_false_iff_ne.mpr c13
            have c13b1 : (a0_0 != 2) = true := bne_iff_ne.mpr c13
            (first | rw [c13b0] | (simp only [i64_w, i32_w]; rw [c13b0]) | skip)
            by_cases c14 : a0_0 = 3
            · rw [if_pos c14] at H
              have c14b0 : (a0_0 == 3) = true := beq_iff_eq.mpr c14
              have c14b1 : (a0_0 != 3) = false := bne_eq_false_iff_eq.mpr c14
              clear c14
              have H' := Aside0.mk H
              clear H
              go_wp2
              go_meet
              case rel => exact ⟨_, ((a0_0 == 3)), (by first | rfl | (simp; done) | (simp [*]; done)), H', ⟨by have := HJ1.out; first | omega | exact Nat.le_refl _⟩, ⟨by (with_reducible repeat (first | refine blk_drewN ?_ _ | refine blk_drew ?_ | refine blk_alloc ?_ _)); exact BK194.out⟩, ⟨by repeat (first | (with_reducible first | exact HB.out | apply below_alloc | apply pw_below_drewN | apply below_drew1 | refine below_set ?_ GE194.out) | exact HB.out)⟩⟩
            · rw [if_neg c14] at H
              have c14b0 : (a0_0 == 3) = false := beq_eq_false_iff_ne.mpr c14
              have c14b1 : (a0_0 != 3) = true := bne_iff_ne.mpr c14
              by_cases c15 : a0_0 = 4
              · rw [if_pos c15] at H
                have c15b0 : (a0_0 == 4) = true := beq_iff_eq.mpr c15
                have c15b1 : (a0_0 != 4) = false := bne_eq_false_iff_eq.mpr c15
                clear c15
                have H' := Aside0.mk H
                clear H
                go_wp2
                go_meet
                case rel => exact ⟨_, ((a0_0 == 4)), (by first | rfl | (simp; done) | (simp [*]; done)), H', ⟨by have := HJ1.out; first | omega | exact Nat.le_refl _⟩, ⟨by (with_reducible repeat (first | refine blk_drewN ?_ _ | refine blk_drew ?_ | refine blk_alloc ?_ _)); exact BK194.out⟩, ⟨by repeat (first | (with_reducible first | exact HB.out | apply below_alloc | apply pw_below_drewN | apply below_drew1 | refine below_set ?_ GE194.out) | exact HB.out)⟩⟩
              · rw [if_neg c15] at H
                have c15b0 : (a0_0 == 4) = false := beq_eq_false_iff_ne.mpr c15
                have c15b1 : (a0_0 != 4) = true := bne_iff_ne.mpr c15
                have H' := Aside0.mk H
                clear H
                go_wp2
                go_meet
                case rel => exact ⟨_, ((a0_0 == 9)), (by first | rfl | (simp; done) | (simp [*]; done)), H', ⟨by have := HJ1.out; first | omega | exact Nat.le_refl _⟩, ⟨by (with_reducible repeat (first | refine blk_drewN ?_ _ | refine blk_drew ?_ | refine blk_alloc ?_ _)); exact BK194.out⟩, ⟨by repeat (first | (with_reducible first | exact HB.out | apply below_alloc | apply pw_below_drewN | apply below_drew1 | refine below_set ?_ GE194.out) | exact HB.out)⟩⟩
        case rest =>
          clear HC12
          try clear c1
          try clear p2
          try clear c5
          try clear c5b0
          try clear c5b1
          try clear c6
          try clear c6b0
          try clear c6b1
          try clear c7
          try clear c7b0
          try clear c7b1
          try clear c8
          try clear c9
          try clear c9b0
          try clear c9b1
          try clear c13
          try clear c13b0
          try clear c13b1
          try clear c14
          try clear c14b0
          try clear c14b1
          try clear c15
          try clear c15b0
          try clear c15b1
          try clear hcz10_0
          try clear hcz10_1
          try clear hcz10_2
          try clear hcz11_0
          try clear hcz11_1
          try clear hcz11_2
          try clear hcz4_0
          try clear hcz4_1
          try clear hcz4_2
          try clear hfz10_0
          try clear hfz10_1
          try clear hfz10_2
          try clear hfz11_0
          try clear hfz11_1
          try clear hfz11_2
          try clear hfz4_0
          try clear hfz4_1
          try clear hfz4_2
          try clear p2
          obtain ⟨kq, x18_11, rfl, HA, HJ11, BK194, HB⟩ := hcut
          cases kq with
          | zero => exact absurd HA.out (by simp [impl_PNode_good.j1])
          | succ kj11 =>
            have H := HA.out
            clear HA
            simp only [impl_PNode_good.j1] at H
            by_cases c16 : x18_11 = true
            · subst c16
              have H1 : ((impl_goodText.f a0_1).bind fun t195 => (if t195 = true then (some (a0_2.toList == ([] : List UInt8))) else (some false))) = some r := by rw [if_pos rfl] at H; exact H
              clear H
              have H := H1
              clear H1
              replace H := Option.bind_eq_some_iff.mp H
              obtain ⟨t195, A170, H⟩ := H
              replace H : (if t195 = true then (some (a0_2.toList == ([] : List UInt8))) else (some false)) = some r := H
              have A17 := Aside0.mk A170
              clear A170
              by_cases c18 : t195 = true
              · subst c18
                have H1 : (some (a0_2.toList == ([] : List UInt8))) = some r := by rw [if_pos rfl] at H; exact H
                clear H
                have H := H1
                clear H1
                obtain rfl := Option.some.inj H
                have hcz19_0 : wc.cell? ⟨gb194, 0, none⟩ = some (.int .i64 a0_0) := (blk_cell BK194.out 0).trans rfl
                have hcz19_1 : wc.cell? ⟨gb194, 1, none⟩ = some (.string a0_1) := (blk_cell BK194.out 1).trans rfl
                have hcz19_2 : wc.cell? ⟨gb194, 2, none⟩ = some (.string a0_2) := (blk_cell BK194.out 2).trans rfl
                have hfz19_0 := blk_frozen BK194.out 0
                have hfz19_1 := blk_frozen BK194.out 1
                have hfz19_2 := blk_frozen BK194.out 2
                go_wp2_with (first | ((with_reducible refine gate_callee (f := 84) rfl ?_); refine goesL_ (some 25) rfl rfl Try.func84 (by kernel_rfl) rfl #[.string a0_1] rfl (by (try simp only [List.map_toArray, List.map_cons, List.map_nil]); first | done | rfl | (simp only [List.length_drop, List.length_take]; rfl)) ?_; (with_reducible refine (impl_goodText.calls a0_1 true _ A17.out).mono ?_); rintro e w' ⟨rfl, ⟨nd, rfl⟩⟩; refine ⟨_, rfl, ?_⟩))
                go_ret
                exact ⟨by first | rfl | (simp [errW_none, errW_some] <;> rfl) | (simp [*, errW_none, errW_some] <;> rfl), by repeat (first | (with_reducible first | exact HB.out | apply below_alloc | apply pw_below_drewN | apply below_drew1 | refine below_set ?_ GE194.out) | exact HB.out)⟩
              · replace c18 := Bool.eq_false_iff.mpr c18
                subst c18
                have H1 : (some false) = some r := by rw [if_neg (show ¬ (false = true) by decide)] at H; exact H
                clear H
                have H := H1
                clear H1
                obtain rfl := Option.some.inj H
                have hcz20_0 : wc.cell? ⟨gb194, 0, none⟩ = some (.int .i64 a0_0) := (blk_cell BK194.out 0).trans rfl
                have hcz20_1 : wc.cell? ⟨gb194, 1, none⟩ = some (.string a0_1) := (blk_cell BK194.out 1).trans rfl
                have hcz20_2 : wc.cell? ⟨gb194, 2, none⟩ = some (.string a0_2) := (blk_cell BK194.out 2).trans rfl
                have hfz20_0 := blk_frozen BK194.out 0
                have hfz20_1 := blk_frozen BK194.out 1
                have hfz20_2 := blk_frozen BK194.out 2
                go_wp2_with (first | ((with_reducible refine gate_callee (f := 84) rfl ?_); refine goesL_ (some 25) rfl rfl Try.func84 (by kernel_rfl) rfl #[.string a0_1] rfl (by (try simp only [List.map_toArray, List.map_cons, List.map_nil]); first | done | rfl | (simp only [List.length_drop, List.length_take]; rfl)) ?_; (with_reducible refine (impl_goodText.calls a0_1 false _ A17.out).mono ?_); rintro e w' ⟨rfl, ⟨nd, rfl⟩⟩; refine ⟨_, rfl, ?_⟩))
                go_ret
                exact ⟨by first | rfl | (simp [errW_none, errW_some] <;> rfl) | (simp [*, errW_none, errW_some] <;> rfl), by repeat (first | (with_reducible first | exact HB.out | apply below_alloc | apply pw_below_drewN | apply below_drew1 | refine below_set ?_ GE194.out) | exact HB.out)⟩
            · replace c16 := Bool.eq_false_iff.mpr c16
              subst c16
              have H1 : (if a0_0 = 5 then ((impl_goodText.f a0_1).bind fun t196 => (if t196 = true then ((impl_goodText.f a0_2).bind fun t197 => (some t197)) else (some false))) else (some false)) = some r := by rw [if_neg (show ¬ (false = true) by decide)] at H; exact H
              clear H
              have H := H1
              clear H1
              by_cases c21 : a0_0 = 5
              · rw [if_pos c21] at H
                have c21b0 : (a0_0 == 5) = true := beq_iff_eq.mpr c21
                have c21b1 : (a0_0 != 5) = false := bne_eq_false_iff_eq.mpr c21
                clear c21
                replace H := Option.bind_eq_some_iff.mp H
                obtain ⟨t196, A220, H⟩ := H
                replace H : (if t196 = true then ((impl_goodText.f a0_2).bind fun t197 => (some t197)) else (some false)) = some r := H
                have A22 := Aside0.mk A220
                clear A220
                by_cases c23 : t196 = true
                · subst c23
                  have H1 : ((impl_goodText.f a0_2).bind fun t197 => (some t197)) = some r := by rw [if_pos rfl] at H; exact H
                  clear H
                  have H := H1
                  clear H1
                  replace H := Option.bind_eq_some_iff.mp H
                  obtain ⟨t197, A240, H⟩ := H
                  replace H : (some t197) = some r := H
                  have A24 := Aside0.mk A240
                  clear A240
                  obtain rfl := Option.some.inj H
                  have hcz25_0 : wc.cell? ⟨gb194, 0, none⟩ = some (.int .i64 a0_0) := (blk_cell BK194.out 0).trans rfl
                  have hcz25_1 : wc.cell? ⟨gb194, 1, none⟩ = some (.string a0_1) := (blk_cell BK194.out 1).trans rfl
                  have hcz25_2 : wc.cell? ⟨gb194, 2, none⟩ = some (.string a0_2) := (blk_cell BK194.out 2).trans rfl
                  have hfz25_0 := blk_frozen BK194.out 0
                  have hfz25_1 := blk_frozen BK194.out 1
                  have hfz25_2 := blk_frozen BK194.out 2
                  go_wp2_with (first | ((with_reducible refine gate_callee (f := 84) rfl ?_); refine goesL_ (some 35) rfl rfl Try.func84 (by kernel_rfl) rfl #[.string a0_1] rfl (by (try simp only [List.map_toArray, List.map_cons, List.map_nil]); first | done | rfl | (simp only [List.length_drop, List.length_take]; rfl)) ?_; (with_reducible refine (impl_goodText.calls a0_1 true _ A22.out).mono ?_); rintro e w' ⟨rfl, ⟨nd, rfl⟩⟩; refine ⟨_, rfl, ?_⟩) | (go_at_call 84; (with_reducible refine (impl_goodText.calls a0_2 t197 _ A24.out).mono ?_); rintro e w' ⟨rfl, ⟨nd, rfl⟩⟩))
                  go_ret
                  exact ⟨by first | rfl | (simp [errW_none, errW_some] <;> rfl) | (simp [*, errW_none, errW_some] <;> rfl), by repeat (first | (with_reducible first | exact HB.out | apply below_alloc | apply pw_below_drewN | apply below_drew1 | refine below_set ?_ GE194.out) | exact HB.out)⟩
                · replace c23 := Bool.eq_false_iff.mpr c23
                  subst c23
                  have H1 : (some false) = some r := by rw [if_neg (show ¬ (false = true) by decide)] at H; exact H
                  clear H
                  have H := H1
                  clear H1
                  obtain rfl := Option.some.inj H
                  have hcz26_0 : wc.cell? ⟨gb194, 0, none⟩ = some (.int .i64 a0_0) := (blk_cell BK194.out 0).trans rfl
                  have hcz26_1 : wc.cell? ⟨gb194, 1, none⟩ = some (.string a0_1) := (blk_cell BK194.out 1).trans rfl
                  have hcz26_2 : wc.cell? ⟨gb194, 2, none⟩ = some (.string a0_2) := (blk_cell BK194.out 2).trans rfl
                  have hfz26_0 := blk_frozen BK194.out 0
                  have hfz26_1 := blk_frozen BK194.out 1
                  have hfz26_2 := blk_frozen BK194.out 2
                  go_wp2_with (first | ((with_reducible refine gate_callee (f := 84) rfl ?_); refine goesL_ (some 35) rfl rfl Try.func84 (by kernel_rfl) rfl #[.string a0_1] rfl (by (try simp only [List.map_toArray, List.map_cons, List.map_nil]); first | done | rfl | (simp only [List.length_drop, List.length_take]; rfl)) ?_; (with_reducible refine (impl_goodText.calls a0_1 false _ A22.out).mono ?_); rintro e w' ⟨rfl, ⟨nd, rfl⟩⟩; refine ⟨_, rfl, ?_⟩))
                  go_ret
                  exact ⟨by first | rfl | (simp [errW_none, errW_some] <;> rfl) | (simp [*, errW_none, errW_some] <;> rfl), by repeat (first | (with_reducible first | exact HB.out | apply below_alloc | apply pw_below_drewN | apply below_drew1 | refine below_set ?_ GE194.out) | exact HB.out)⟩
              · rw [if_neg c21] at H
                have c21b0 : (a0_0 == 5) = false := beq_eq_false_iff_ne.mpr c21
                have c21b1 : (a0_0 != 5) = true := bne_iff_ne.mpr c21
                obtain rfl := Option.some.inj H
                go_wp2
                go_ret
                exact ⟨by first | rfl | (simp [errW_none, errW_some] <;> rfl) | (simp [*, errW_none, errW_some] <;> rfl), by repeat (first | (with_reducible first | exact HB.out | apply below_alloc | apply pw_below_drewN | apply below_drew1 | refine below_set ?_ GE194.out) | exact HB.out)⟩

/-! ### impl_PNode_arity: function 85 -/
def impl_PNode_arity.j0 : Nat → Int → Bool → Option (Int)
  | 0, _, _ => none
  | k + 1, x4, x5 => if x5 = true then (some 1) else (if x4 = 6 then (some 2) else (if x4 = 7 then (some 2) else (if x4 = 8 then (some 2) else (some 0))))
def impl_PNode_arity.f (k : Nat) (a0_0 : Int) (a0_1 : ByteArray) (a0_2 : ByteArray) : Option (Int) := if a0_0 = 3 then (impl_PNode_arity.j0 k a0_0 (a0_0 == 3)) else (if a0_0 = 4 then (impl_PNode_arity.j0 k a0_0 (a0_0 == 4)) else (if a0_0 = 5 then (impl_PNode_arity.j0 k a0_0 (a0_0 == 5)) else (impl_PNode_arity.j0 k a0_0 (a0_0 == 9))))
theorem impl_PNode_arity.mono_l : ∀ k, (∀ y0 y1, LeO (impl_PNode_arity.j0 k y0 y1) (impl_PNode_arity.j0 (k + 1) y0 y1))
  | 0 => fun _ _ r h => by simp [impl_PNode_arity.j0] at h
  | k + 1 => by
    have ih0 := impl_PNode_arity.mono_l k
    · intro y0 y1
      unfold impl_PNode_arity.j0
      repeat' first
      | (with_reducible exact ih0 _ _)
      | (with_reducible exact LeO.refl _)
      | (with_reducible exact LeO.none _)
      | (with_reducible refine LeO.ite ?_ ?_)
      | (with_reducible refine LeO.bind ?_ (fun _ => ?_))
      | exact ih0 _ _
      | exact LeO.none _
      | refine LeO.ite ?_ ?_
      | refine LeO.bind ?_ (fun _ => ?_)
theorem impl_PNode_arity.mono : ∀ a0 a1 a2 k, LeO (impl_PNode_arity.f k a0 a1 a2) (impl_PNode_arity.f (k + 1) a0 a1 a2) := by
  intro a0 a1 a2 k
  have ih0 := impl_PNode_arity.mono_l k
  unfold impl_PNode_arity.f
  repeat' first
      | (with_reducible exact ih0 _ _)
      | (with_reducible exact LeO.refl _)
      | (with_reducible exact LeO.none _)
      | (with_reducible refine LeO.ite ?_ ?_)
      | (with_reducible refine LeO.bind ?_ (fun _ => ?_))
      | exact ih0 _ _
      | exact LeO.none _
      | refine LeO.ite ?_ ?_
      | refine LeO.bind ?_ (fun _ => ?_)
set_option maxHeartbeats 8000000 in
set_option maxRecDepth 100000 in
theorem impl_PNode_arity.calls (k : Nat) (a0_0 : Int) (a0_1 : ByteArray) (a0_2 : ByteArray) (r : Int) (w : World) (h : impl_PNode_arity.f k a0_0 a0_1 a0_2 = some r) :
    Calls Try.prog 85 #[.agg #[.int .i64 a0_0, .string a0_1, .string a0_2]] w fun e w' => e = .returned (.int .i64 r) ∧ Below w.heap.size w w' := by
  have hu54 := Try.underlying54
  have HB := Aside0.mk (Below.refl w.heap.size w)
  have H : (if a0_0 = 3 then (impl_PNode_arity.j0 k a0_0 (a0_0 == 3)) else (if a0_0 = 4 then (impl_PNode_arity.j0 k a0_0 (a0_0 == 4)) else (if a0_0 = 5 then (impl_PNode_arity.j0 k a0_0 (a0_0 == 5)) else (impl_PNode_arity.j0 k a0_0 (a0_0 == 9))))) = some r := h
  clear h
  have HC2 := Aside0.mk H
  clear H
  go_enter Try.func85, Try.ntmps85
  go_upto_if 5 with (first | ((with_reducible refine gate_dst (N := 1) rfl ?_); refine box_event ?hg (N := 1) ?hd (cs := #[.int .i64 a0_0, .string a0_1, .string a0_2]) (t := 54) ?hr ?_; (case hd => rfl); (case hg => rfl); (case hr => first | (go_simp; done) | (go_simp; rfl)); intro gb198 hg w3 hbox hb; have n0_ := Aside0.mk (below_step (by repeat (first | (with_reducible first | exact HB.out | apply below_alloc | apply pw_below_drewN | apply below_drew1) | exact HB.out)) hb); have n1_ := Aside0.mk (hbox); have n2_ := Aside0.mk ((by rw [hg]; exact (below_size (by repeat (first | (with_reducible first | exact HB.out | apply below_alloc | apply pw_below_drewN | apply below_drew1) | exact HB.out))) : w.heap.size ≤ gb198)); have n3_ := Aside0.mk ((by rw [hg]; exact (below_size (by repeat (first | (with_reducible first | exact HB.out | apply below_alloc | apply pw_below_drewN | apply below_drew1) | exact HB.out))) : w.heap.size ≤ gb198)); clear HB; have HB := n0_; have BK198 := n1_; have GW198 := n2_; have GE198 := n3_; clear n0_ n1_ n2_ n3_; clear hb hbox hg; have hcz4_0 : w3.cell? ⟨gb198, 0, none⟩ = some (.int .i64 a0_0) := (blk_cell BK198.out 0).trans rfl; have hcz4_1 : w3.cell? ⟨gb198, 1, none⟩ = some (.string a0_1) := (blk_cell BK198.out 1).trans rfl; have hcz4_2 : w3.cell? ⟨gb198, 2, none⟩ = some (.string a0_2) := (blk_cell BK198.out 2).trans rfl; have hfz4_0 := blk_frozen BK198.out 0; have hfz4_1 := blk_frozen BK198.out 1; have hfz4_2 := blk_frozen BK198.out 2))
  (try simp only [Act.put, List.setIfInBounds_toArray, List.set_cons_zero, List.set_cons_succ])
  go_cut [5] (fun v5 wc => ∃ (kq : Nat) (x5_1 : Bool), v5 = .bool x5_1 ∧ Aside0 (impl_PNode_arity.j0 kq a0_0 x5_1 = some r) ∧ Aside0 (kq ≤ k) ∧ Aside0 (wc.heap[gb198]? = some (.cells #[.int .i64 a0_0, .string a0_1, .string a0_2] 54 (0, 0))) ∧ Aside0 (Below w.heap.size w wc))
  case first =>
    have H := HC2.out
    clear HC2
    by_cases c5 : a0_0 = 3
    · rw [if_pos c5] at H
      have c5b0 : (a0_0 == 3) = true := beq_iff_eq.mpr c5
      have c5b1 : (a0_0 != 3) = false := bne_eq_false_iff_eq.mpr c5
      clear c5
      (first | rw [c5b0] | (simp only [i64_w, i32_w]; rw [c5b0]) | skip)
      have H' := Aside0.mk H
      clear H
      go_wp2
      go_meet
      case rel => exact ⟨_, ((a0_0 == 3)), (by first | rfl | (simp; done) | (simp [*]; done)), H', ⟨by first | omega | exact Nat.le_refl _⟩, ⟨by (with_reducible repeat (first | refine blk_drewN ?_ _ | refine blk_drew ?_ | refine blk_alloc ?_ _)); exact BK198.out⟩, ⟨by repeat (first | (with_reducible first | exact HB.out | apply below_alloc | apply pw_below_drewN | apply below_drew1 | refine below_set ?_ GE198.out) | exact HB.out)⟩⟩
    · rw [if_neg c5] at H
      have c5b0 : (a0_0 == 3) = false := beq_eq_false_iff_ne.mpr c5
      have c5b1 : (a0_0 != 3) = true := bne_iff_ne.mpr c5
      (first | rw [c5b0] | (simp only [i64_w, i32_w]; rw [c5b0]) | skip)
      by_cases c6 : a0_0 = 4
      · rw [if_pos c6] at H
        have c6b0 : (a0_0 == 4) = true := beq_iff_eq.mpr c6
        have c6b1 : (a0_0 != 4) = false := bne_eq_false_iff_eq.mpr c6
        clear c6
        have H' := Aside0.mk H
        clear H
        go_wp2
        go_meet
        case rel => exact ⟨_, ((a0_0 == 4)), (by first | rfl | (simp; done) | (simp [*]; done)), H', ⟨by first | omega | exact Nat.le_refl _⟩, ⟨by (with_reducible repeat (first | refine blk_drewN ?_ _ | refine blk_drew ?_ | refine blk_alloc ?_ _)); exact BK198.out⟩, ⟨by repeat (first | (with_reducible first | exact HB.out | apply below_alloc | apply pw_below_drewN | apply below_drew1 | refine below_set ?_ GE198.out) | exact HB.out)⟩⟩
      · rw [if_neg c6] at H
        have c6b0 : (a0_0 == 4) = false := beq_eq_false_iff_ne.mpr c6
        have c6b1 : (a0_0 != 4) = true := bne_iff_ne.mpr c6
        by_cases c7 : a0_0 = 5
        · rw [if_pos c7] at H
          have c7b0 : (a0_0 == 5) = true := beq_iff_eq.mpr c7
          have c7b1 : (a0_0 != 5) = false := bne_eq_false_iff_eq.mpr c7
          clear c7
          have H' := Aside0.mk H
          clear H
          go_wp2
          go_meet
          case rel => exact ⟨_, ((a0_0 == 5)), (by first | rfl | (simp; done) | (simp [*]; done)), H', ⟨by first | omega | exact Nat.le_refl _⟩, ⟨by (with_reducible repeat (first | refine blk_drewN ?_ _ | refine blk_drew ?_ | refine blk_alloc ?_ _)); exact BK198.out⟩, ⟨by repeat (first | (with_reducible first | exact HB.out | apply below_alloc | apply pw_below_drewN | apply below_drew1 | refine below_set ?_ GE198.out) | exact HB.out)⟩⟩
        · rw [if_neg c7] at H
          have c7b0 : (a0_0 == 5) = false := beq_eq_false_iff_ne.mpr c7
          have c7b1 : (a0_0 != 5) = true := bne_iff_ne.mpr c7
          have H' := Aside0.mk H
          clear H
          go_wp2
          go_meet
          case rel => exact ⟨_, ((a0_0 == 9)), (by first | rfl | (simp; done) | (simp [*]; done)), H', ⟨by first | omega | exact Nat.le_refl _⟩, ⟨by (with_reducible repeat (first | refine blk_drewN ?_ _ | refine blk_drew ?_ | refine blk_alloc ?_ _)); exact BK198.out⟩, ⟨by repeat (first | (with_reducible first | exact HB.out | apply below_alloc | apply pw_below_drewN | apply below_drew1 | refine below_set ?_ GE198.out) | exact HB.out)⟩⟩
  case rest =>
    clear HC2
    try clear p2
    try clear c5
    try clear c5b0
    try clear c5b1
    try clear c6
    try clear c6b0
    try clear c6b1
    try clear c7
    try clear c7b0
    try clear c7b1
    try clear hcz4_0
    try clear hcz4_1
    try clear hcz4_2
    try clear hfz4_0
    try clear hfz4_1
    try clear hfz4_2
    obtain ⟨kq, x5_1, rfl, HA, HJ1, BK198, HB⟩ := hcut
    cases kq with
    | zero => exact absurd HA.out (by simp [impl_PNode_arity.j0])
    | succ kj1 =>
      have H := HA.out
      clear HA
      simp only [impl_PNode_arity.j0] at H
      by_cases c8 : x5_1 = true
      · subst c8
        have H1 : (some 1) = some r := by rw [if_pos rfl] at H; exact H
        clear H
        have H := H1
        clear H1
        obtain rfl := Option.some.inj H
        go_wp2
        go_ret
        exact ⟨by first | rfl | (simp [errW_none, errW_some] <;> rfl) | (simp [*, errW_none, errW_some] <;> rfl), by repeat (first | (with_reducible first | exact HB.out | apply below_alloc | apply pw_below_drewN | apply below_drew1 | refine below_set ?_ GE198.out) | exact HB.out)⟩
      · replace c8 := Bool.eq_false_iff.mpr c8
        subst c8
        have H1 : (if a0_0 = 6 then (some 2) else (if a0_0 = 7 then (some 2) else (if a0_0 = 8 then (some 2) else (some 0)))) = some r := by rw [if_neg (show ¬ (false = true) by decide)] at H; exact H
        clear H
        have H := H1
        clear H1
        by_cases c9 : a0_0 = 6
        · rw [if_pos c9] at H
          have c9b0 : (a0_0 == 6) = true := beq_iff_eq.mpr c9
          have c9b1 : (a0_0 != 6) = false := bne_eq_false_iff_eq.mpr c9
          clear c9
          obtain rfl := Option.some.inj H
          go_wp2
          go_ret
          exact ⟨by first | rfl | (simp [errW_none, errW_some] <;> rfl) | (simp [*, errW_none, errW_some] <;> rfl), by repeat (first | (with_reducible first | exact HB.out | apply below_alloc | apply pw_below_drewN | apply below_drew1 | refine below_set ?_ GE198.out) | exact HB.out)⟩
        · rw [if_neg c9] at H
          have c9b0 : (a0_0 == 6) = false := beq_eq_false_iff_ne.mpr c9
          have c9b1 : (a0_0 != 6) = true := bne_iff_ne.mpr c9
          by_cases c10 : a0_0 = 7
          · rw [if_pos c10] at H
            have c10b0 : (a0_0 == 7) = true := beq_iff_eq.mpr c10
            have c10b1 : (a0_0 != 7) = false := bne_eq_false_iff_eq.mpr c10
            clear c10
            obtain rfl := Option.some.inj H
            go_wp2
            go_ret
            exact ⟨by first | rfl | (simp [errW_none, errW_some] <;> rfl) | (simp [*, errW_none, errW_some] <;> rfl), by repeat (first | (with_reducible first | exact HB.out | apply below_alloc | apply pw_below_drewN | apply below_drew1 | refine below_set ?_ GE198.out) | exact HB.out)⟩
          · rw [if_neg c10] at H
            have c10b0 : (a0_0 == 7) = false := beq_eq_false_iff_ne.mpr c10
            have c10b1 : (a0_0 != 7) = true := bne_iff_ne.mpr c10
            by_cases c11 : a0_0 = 8
            · rw [if_pos c11] at H
              have c11b0 : (a0_0 == 8) = true := beq_iff_eq.mpr c11
              have c11b1 : (a0_0 != 8) = false := bne_eq_false_iff_eq.mpr c11
              clear c11
              obtain rfl := Option.some.inj H
              go_wp2
              go_ret
              exact ⟨by first | rfl | (simp [errW_none, errW_some] <;> rfl) | (simp [*, errW_none, errW_some] <;> rfl), by repeat (first | (with_reducible first | exact HB.out | apply below_alloc | apply pw_below_drewN | apply below_drew1 | refine below_set ?_ GE198.out) | exact HB.out)⟩
            · rw [if_neg c11] at H
              have c11b0 : (a0_0 == 8) = false := beq_eq_false_iff_ne.mpr c11
              have c11b1 : (a0_0 != 8) = true := bne_iff_ne.mpr c11
              obtain rfl := Option.some.inj H
              go_wp2
              go_ret
              exact ⟨by first | rfl | (simp [errW_none, errW_some] <;> rfl) | (simp [*, errW_none, errW_some] <;> rfl), by repeat (first | (with_reducible first | exact HB.out | apply below_alloc | apply pw_below_drewN | apply below_drew1 | refine below_set ?_ GE198.out) | exact HB.out)⟩

/-! ### impl_contains: a text by hand -/
-- import Derived.Deep.RegionLaw
theorem igood_ev (x : S54) : Ev (fun k => impl_PNode_good.f k x.f0 x.f1 x.f2) (gP x) := by
  obtain ⟨a, s, t⟩ := x
  have tx : ∀ s : ByteArray, impl_goodText.f s = some (gTxt s) := fun s => by
    unfold impl_goodText.f gTxt
    by_cases c : (s.size : Int) ≥ 1
    · rw [if_pos c, decide_eq_true (show 1 ≤ (s.size : Int) from c), Bool.true_and]
    · rw [if_neg c, decide_eq_false (show ¬ 1 ≤ (s.size : Int) from c), Bool.false_and]
  have j0t : Ev (fun k => impl_PNode_good.j0 k a true a s t) (noT s && noT t) := by
    refine Ev.step (f := fun _ => some (noT s && noT t)) (fun K => ?_) (Ev.now _)
    simp only [impl_PNode_good.j0]
    rw [if_pos trivial]
    unfold noT
    by_cases c : s.toList = []
    · rw [if_pos c, beq_iff_eq.2 c, Bool.true_and]
    · rw [if_neg c, beq_eq_false_iff_ne.2 c, Bool.false_and]
  have j1t : Ev (fun k => impl_PNode_good.j1 k a true a s t) (gTxt s && noT t) := by
    refine Ev.step (f := fun _ => some (gTxt s && noT t)) (fun K => ?_) (Ev.now _)
    simp only [impl_PNode_good.j1]
    rw [if_pos trivial, tx, Option.bind_some]
    cases gTxt s
    · rw [if_neg (by decide)]; rfl
    · rw [if_pos rfl]; rfl
  have j1f : Ev (fun k => impl_PNode_good.j1 k a false a s t) (if a = 5 then gTxt s && gTxt t else false) := by
    refine Ev.step (f := fun _ => some (if a = 5 then gTxt s && gTxt t else false)) (fun K => ?_) (Ev.now _)
    simp only [impl_PNode_good.j1]
    rw [if_neg (by decide)]
    by_cases c : a = 5
    · rw [if_pos c, if_pos c, tx, tx, Option.bind_some]
      cases gTxt s
      · rw [if_neg (by decide)]; rfl
      · rw [if_pos rfl]; rfl
    · rw [if_neg c, if_neg c]
  have j0f : Ev (fun k => impl_PNode_good.j0 k a false a s t) (if a = 2 ∨ a = 3 ∨ a = 4 ∨ a = 9 then gTxt s && noT t else if a = 5 then gTxt s && gTxt t else false) := by
    refine Ev.step (f := fun k => if a = 2 then impl_PNode_good.j1 k a (a == 2) a s t else (if a = 3 then impl_PNode_good.j1 k a (a == 3) a s t else (if a = 4 then impl_PNode_good.j1 k a (a == 4) a s t else impl_PNode_good.j1 k a (a == 9) a s t))) (fun K => ?_) ?_
    · simp only [impl_PNode_good.j0]
      rw [if_neg (by decide)]
    · by_cases c2 : a = 2
      · rw [if_pos (by omega)]
        exact Ev.congr (fun K => by rw [if_pos c2, beq_iff_eq.2 c2]) j1t
      by_cases c3 : a = 3
      · rw [if_pos (by omega)]
        exact Ev.congr (fun K => by rw [if_neg c2, if_pos c3, beq_iff_eq.2 c3]) j1t
      by_cases c4 : a = 4
      · rw [if_pos (by omega)]
        exact Ev.congr (fun K => by rw [if_neg c2, if_neg c3, if_pos c4, beq_iff_eq.2 c4]) j1t
      by_cases c9 : a = 9
      · rw [if_pos (by omega)]
        exact Ev.congr (fun K => by rw [if_neg c2, if_neg c3, if_neg c4, beq_iff_eq.2 c9]) j1t
      · rw [if_neg (by omega)]
        exact Ev.congr (fun K => by rw [if_neg c2, if_neg c3, if_neg c4, beq_eq_false_iff_ne.2 c9]) j1f
  unfold impl_PNode_good.f gP
  dsimp only
  by_cases c1 : a = 1
  · rw [if_pos (by omega)]
    exact Ev.congr (fun K => by rw [if_pos c1, beq_iff_eq.2 c1]) j0t
  by_cases c6 : a = 6
  · rw [if_pos (by omega)]
    exact Ev.congr (fun K => by rw [if_neg c1, if_pos c6, beq_iff_eq.2 c6]) j0t
  by_cases c7 : a = 7
  · rw [if_pos (by omega)]
    exact Ev.congr (fun K => by rw [if_neg c1, if_neg c6, if_pos c7, beq_iff_eq.2 c7]) j0t
  by_cases c8 : a = 8
  · rw [if_pos (by omega)]
    exact Ev.congr (fun K => by rw [if_neg c1, if_neg c6, if_neg c7, beq_iff_eq.2 c8]) j0t
  · rw [if_neg (by omega)]
    exact Ev.congr (fun K => by rw [if_neg c1, if_neg c6, if_neg c7, beq_eq_false_iff_ne.2 c8]) j0f
theorem iar_ev {x : S54} (k : Nat) : impl_PNode_arity.f (k + 1) x.f0 x.f1 x.f2 = some ((arN x.f0 : Nat) : Int) := by
  obtain ⟨a, s, t⟩ := x
  unfold impl_PNode_arity.f arN
  simp only [impl_PNode_arity.j0]
  have : a = 3 ∨ a = 4 ∨ a = 5 ∨ a = 6 ∨ a = 7 ∨ a = 8 ∨ a = 9 ∨ (a ≠ 3 ∧ a ≠ 4 ∧ a ≠ 5 ∧ a ≠ 6 ∧ a ≠ 7 ∧ a ≠ 8 ∧ a ≠ 9) := by omega
  rcases this with rfl | rfl | rfl | rfl | rfl | rfl | rfl | h
  · rfl
  · rfl
  · rfl
  · rfl
  · rfl
  · rfl
  · rfl
  · simp [h]
def allG (l : List S54) : Bool := l.all gP
set_option maxHeartbeats 4000000 in
theorem bad_calls (x : S54) (w : World) : Calls Try.prog 60 #[.agg #[.int .i64 x.f0, .string x.f1, .string x.f2]] w fun e w' => e = .returned (.bool (!gP x)) ∧ Below w.heap.size w w' := by
  obtain ⟨k, hk⟩ := (igood_ev x).rounds
  have hu := Try.underlying54
  have HB := Aside0.mk (Below.refl w.heap.size w)
  have HK := Aside0.mk hk
  clear hk
  go_enter Try.func60, Try.ntmps60
  go_wp2_with fail
  refine (impl_PNode_good.calls k x.f0 x.f1 x.f2 _ _ HK.out).mono ?_
  rintro e w1 ⟨rfl, gb⟩
  have HB1 := Aside0.mk (below_step (below_alloc HB.out _) gb)
  clear gb HB
  go_wp2_with fail
  go_ret
  exact ⟨rfl, HB1.out⟩
def ixBad (l : List S54) : Int := match l.findIdx? (fun x => !gP x) with | some i => (i : Int) | none => -1
set_option maxHeartbeats 4000000 in
set_option maxRecDepth 100000 in
theorem indexBad_calls (A : Option Addr) (c : Nat) (l : List S54) (w : World) (hr : Kd.C k54 w A l.length l) (hc : l.length ≤ c) (hl : l.length ≤ 1048576) :
    Calls Try.prog 83 #[.slice A l.length c, .func (.func 60) #[] #[]] w fun e w' => ∃ i : Int, e = .returned (.int .i64 i) ∧ ((0 ≤ i ∧ allG l = false) ∨ (i = -1 ∧ allG l = true)) ∧ Below w.heap.size w w' := by
  have HR := Aside0.mk hr
  have HL := Aside0.mk hl
  have HB := Aside0.mk (Below.refl w.heap.size w)
  clear hr
  have hu := Try.underlying54
  go_enter Try.func83, Try.ntmps83
  go_wp2_with fail
  go_loopg [8] l.length (fun kq v8 w' => ∃ (i : Nat), v8 = .int .i64 i ∧ Aside0 (i ≤ l.length ∧ kq = l.length - i) ∧ Aside0 ((l.take i).all gP = true) ∧ Aside0 (Below w.heap.size w w'))
  case atStart => exact ⟨0, rfl, ⟨by omega, rfl⟩, ⟨rfl⟩, HB⟩
  case round =>
    obtain ⟨i, rfl, HI, HA, HB⟩ := hrel
    by_cases ci : (i : Int) < (l.length : Int)
    · obtain ⟨ad, e_, c0, c1, c2⟩ := at_T54 (Kd.C_below HR.out HB.out) (i : Int) (by omega) (by omega)
      cases e_
      rw [Int.toNat_natCast, gN_rd] at c0 c1 c2
      go_wp2_with fail
      refine (bad_calls (gN l i) _).mono ?_
      rintro e w1 ⟨rfl, gb⟩
      have HB1 := Aside0.mk (below_step HB.out gb)
      have hm : gN l i ∈ l := by rw [gN_at l i (by omega)]; exact List.getElem_mem _
      have ht : l.take (i + 1) = l.take i ++ [gN l i] := by rw [List.take_succ_eq_append_getElem (by omega), gN_at l i (by omega)]
      have HT := Aside0.mk ht
      have HM := Aside0.mk hm
      clear gb HB c0 c1 c2 hm ht
      by_cases cg : gP (gN l i) = true
      · rw [cg]
        go_wp2_with fail
        go_roundg (l.length - (i + 1))
        case measure => have := HI.out; omega
        case rel => exact ⟨i + 1, by first | rfl | go_num, ⟨by omega, rfl⟩, ⟨by rw [HT.out, List.all_append, HA.out, List.all_cons, cg]; rfl⟩, HB1⟩
      · have cg' : gP (gN l i) = false := by simpa using cg
        rw [cg']
        go_wp2_with fail
        go_ret
        refine ⟨_, rfl, .inl ⟨by omega, ?_⟩, HB1.out⟩
        unfold allG
        rw [List.all_eq_false]
        exact ⟨_, HM.out, by simp [cg']⟩
    · have hA := HA.out
      rw [List.take_of_length_le (by omega)] at hA
      have HA := Aside0.mk hA
      clear hA
      go_wp2_with fail
      go_ret
      exact ⟨_, rfl, .inr ⟨rfl, HA.out⟩, HB.out⟩
set_option maxHeartbeats 4000000 in
theorem containsBad_calls (A : Option Addr) (c : Nat) (l : List S54) (w : World) (hr : Kd.C k54 w A l.length l) (hc : l.length ≤ c) (hl : l.length ≤ 1048576) :
    Calls Try.prog 59 #[.slice A l.length c, .func (.func 60) #[] #[]] w fun e w' => e = .returned (.bool (!allG l)) ∧ Below w.heap.size w w' := by
  have HR := Aside0.mk hr
  have HB := Aside0.mk (Below.refl w.heap.size w)
  have hix := indexBad_calls A c l
  generalize allG l = b at *
  have HIX := Aside0.mk hix
  clear hix
  go_enter Try.func59, Try.ntmps59
  go_wp2_with fail
  refine (HIX.out _ HR.out hc hl).mono ?_
  rintro e w1 ⟨i, rfl, hi, gb⟩
  have HB1 := Aside0.mk (below_step HB.out gb)
  clear gb HB hr
  rcases hi with ⟨h0, rfl⟩ | ⟨rfl, rfl⟩
  · skip
    go_wp2_with fail
    go_ret
    exact ⟨rfl, HB1.out⟩
  · skip
    go_wp2_with fail
    go_ret
    exact ⟨rfl, HB1.out⟩

/-! ### impl_cloneS: a text by hand -/
-- import Derived.Deep.RegionLaw
-- import Derived.WalkSpells
theorem infoStep : (Try.prog.info? 62).map (fun i => (i.zero, i.size, i.bytes)) = some (some (.pointer none), 1, 8) := by kernel_rfl
theorem rS_empty (w : World) (base : Nat) (ok : Nat → Prop) (hb : base ≤ w.heap.size) (hk : ok w.heap.size) : Kd.R kStep 62 (w.alloc (.cells #[] 62)) base ok (.slice (some ⟨w.heap.size, 0, none⟩) 0 0) [] :=
  ⟨fun k h => by have : w.heap.size = k := by simpa [Value.ownBlock] using h
                 exact this ▸ hk, [], World.ownsRow_lit (base := base) (e := 62) (size := 1) w #[] 0 hb (by decide) (by simp), Reps.none _ _⟩
set_option maxHeartbeats 4000000 in
set_option maxRecDepth 100000 in
theorem cloneS_any (base : Nat) (okp : Nat → Prop) (A : Option Addr) (c : Nat) (ts : List PT) (w : World) (hr : ReadsRow (kStep.M w base okp) 1 w A ts.length ts) (hc : ts.length ≤ c) (hb : base ≤ w.heap.size) (hl : ts.length ≤ 1048576) :
    Calls Try.prog 86 #[.slice A ts.length c] w fun e w' => ∃ v, e = .returned v ∧ Kd.R kStep 62 w' base (fun k => okp k ∨ w.heap.size ≤ k) v ts ∧ Below w.heap.size w w' := by
  have q27 : ∀ (w : World) (a : Option Addr) (n c n' c' : Nat), (binOp .eql 95 (.slice a n c) (.slice none n' c')).run Try.prog w = .ok (.bool a.isNone) w := fun w a n c n' c' => Lib.run_eql_slice_nil w _ _ a n c n' c' Try.underlying95
  have HR := Aside0.mk hr
  have HB := Aside0.mk (Below.refl w.heap.size w)
  have HZ := Aside0.mk hb
  rcases A with _ | ad
  · have h0 : ts = [] := by
      cases ts with
      | nil => rfl
      | cons x r => obtain ⟨ad, h1, _⟩ := hr.2.2 (by simp); cases h1
    subst h0
    clear hr hc hl hb
    go_enter Try.func86, Try.ntmps86
    go_wp2_with fail
    go_ret
    exact ⟨_, rfl, Kd.R_nil _ _ _ _ _, HB.out⟩
  · have HL := Aside0.mk hl
    have hr1 : ReadsRow (kStep.M w base (fun k => okp k ∧ k < w.heap.size)) 1 w (some ad) ts.length ts := hr.imp_ (Below.refl _ _) (fun _ _ hp => kStep.M_mono (fun k hk => ⟨hk.1, hk.2.2.1⟩) (kStep.M_bound hp))
    have hba := below_alloc HB.out (.cells #[] 62)
    have hr2 : ReadsRow (kStep.M (w.alloc (.cells #[] 62)) base (fun k => okp k ∧ k < w.heap.size)) 1 (w.alloc (.cells #[] 62)) (some ad) ts.length ts := hr1.imp_ hba (fun _ _ hp => Kd.M_below hp hba)
    have HR2 := Aside0.mk hr2
    have HE := Aside0.mk (rS_empty w base (fun k => okp k ∨ w.heap.size ≤ k) hb (.inr (Nat.le_refl _)))
    have p1 : ∀ k, (okp k ∧ k < w.heap.size) → ((okp k ∨ w.heap.size ≤ k) ∧ some k ≠ (.slice (some ⟨w.heap.size, 0, none⟩) 0 0 : Value).ownBlock) := by
      intro k hk
      refine ⟨.inl hk.1, fun he => ?_⟩
      have : k = w.heap.size := by simpa [Value.ownBlock] using he
      omega
    have P1 := Aside0.mk p1
    have P2 : Aside0 (∀ k, (w.alloc (.cells #[] 62)).heap.size ≤ k → (okp k ∨ w.heap.size ≤ k)) := ⟨fun k hk => .inr (by simp at hk; omega)⟩
    have P3 : Aside0 (Below base w (w.alloc (.cells #[] 62))) := ⟨hba.mono hb⟩
    have P4 : Aside0 (base ≤ (w.alloc (.cells #[] 62)).heap.size) := ⟨by simp; omega⟩
    have p5 : ∀ k, (.slice (some ⟨w.heap.size, 0, none⟩) 0 0 : Value).ownBlock = some k → w.heap.size ≤ k := by
      intro k hk
      have : w.heap.size = k := by simpa [Value.ownBlock] using hk
      omega
    have P5 := Aside0.mk p5
    clear p1 p5
    clear hr hc hl hb hr1 hr2 hba
    go_enter Try.func86, Try.ntmps86
    go_wp2_with ((with_reducible refine gate_builtin (b := .append) (xs := #[.tmp 5, .tmp 6]) rfl ?_); at_builtin; go_loud (refine Kd.R_append_rows kStep (w0 := w) base rfl (.tmp 5) (.tmp 6) 95 62 (.pointer none) 8 rfl Try.underlying95 infoStep rfl (by decide) (by decide) (.slice (some ⟨w.heap.size, 0, none⟩) 0 0) [] ts _ _ _ (fun k => okp k ∨ w.heap.size ≤ k) (fun k => okp k ∧ k < w.heap.size) rfl rfl HE.out HR2.out (fun x cs h => h) P1.out P2.out P3.out P4.out (by have := HL.out; simp; omega) ?_); intro v w2 ho hb hg hat; rw [List.nil_append] at ho; have HO := Aside0.mk ho; have HB2 := Aside0.mk ((below_alloc HB.out (.cells #[] 62)).grown hg (by simp) P5.out); clear ho hb hg hat)
    go_ret
    exact ⟨_, rfl, HO.out, HB2.out⟩
theorem ReadsRow_drop {α : Type} {R : α → List Value → Prop} {size : Nat} {w : World} {A : Option Addr} {xs : List α} {m c : Nat} (h : ReadsRow R size w A xs.length xs) (hm : m ≤ xs.length) (hc : xs.length ≤ c) : ReadsRow R size w (if c = m then A else A.map (·.add (m * size))) (xs.drop m).length (xs.drop m) := by
  have hl : (xs.drop m).length = xs.length - m := List.length_drop
  refine ⟨rfl, by rw [hl]; have := h.2.1; omega, fun hp => ?_⟩
  rw [hl] at hp
  obtain ⟨ad, rfl, hcell⟩ := h.2.2 (by omega)
  rw [if_neg (by omega)]
  refine ⟨ad.add (m * size), rfl, fun j p hj => ?_⟩
  rw [List.getElem?_drop] at hj
  obtain ⟨cs, h1, h2, h3⟩ := hcell (m + j) p hj
  refine ⟨cs, h1, h2, fun i u hu => ?_⟩
  rw [add_add, show m * size + (j * size + i) = (m + j) * size + i by rw [Nat.add_mul]; omega]
  exact h3 i u hu
theorem cloneS_n (base : Nat) (okp : Nat → Prop) (A : Option Addr) (c n : Nat) (ts : List PT) (hn : ts.length = n) (w : World) (hr : ReadsRow (kStep.M w base okp) 1 w A ts.length ts) (hc : n ≤ c) (hb : base ≤ w.heap.size) (hl : n ≤ 1048576) :
    Calls Try.prog 86 #[.slice A n c] w fun e w' => ∃ A2 c2, e = .returned (.slice A2 n c2) ∧ Kd.R kStep 62 w' base (fun k => okp k ∨ w.heap.size ≤ k) (.slice A2 n c2) ts ∧ Below w.heap.size w w' := by
  subst hn
  refine (cloneS_any base okp A c ts w hr hc hb hl).mono ?_
  rintro e w' ⟨v, rfl, hR, hB⟩
  obtain ⟨A2, c2, rfl⟩ := Kd.R_slice hR
  exact ⟨A2, c2, rfl, hR, hB⟩

/-! ### impl_steps: a text by hand -/
-- import Derived.Deep.RegionLaw
-- import Derived.Deep.RegionWith
-- import Derived.Deep.DeepCutAuto
-- import Derived.WalkSpells
-- import Derived.StillTailTactics
theorem infoSl : (Try.prog.info? 62).map (·.size) = some 1 := by kernel_rfl
def StepsPost (l : List S54) (w : World) (e : Ending) (w' : World) : Prop :=
  ((∃ t b, runP l 0 [] = some [t] ∧ e = .returned (ptrV b) ∧ PTr w' (fun k => w.heap.size ≤ k) t b) ∨ ((∀ t, runP l 0 [] ≠ some [t]) ∧ e = .returned (.pointer none))) ∧ Below w.heap.size w w'
theorem runP_step {x : S54} {r : List S54} {i : Nat} {st : List PT} (h : ¬ st.length < arN x.f0) : runP (x :: r) i st = runP r (i + 1) (st.take (st.length - arN x.f0) ++ [.mk x i (st.drop (st.length - arN x.f0))]) := by
  simp only [runP]
  rw [if_neg h]
theorem R_readsM {w : World} {base : Nat} {ok : Nat → Prop} {A : Option Addr} {c : Nat} {ts : List PT} (h : Kd.R kStep 62 w base ok (.slice A ts.length c) ts) : ts.length ≤ c ∧ ReadsRow (kStep.M w base (fun k => ok k ∧ some k ≠ (.slice A ts.length c : Value).ownBlock)) 1 w A ts.length ts := by
  obtain ⟨A', c', he, hl, hr⟩ := h.2.reads
  injection he with h1 h2 h3
  subst h1 h3
  exact ⟨hl, hr⟩
theorem hgtL_bound : ∀ (ts : List PT), (∀ s ∈ ts, s.hgt ≤ 1048576) → PT.hgtL ts ≤ 1048576
  | [], _ => by simp [PT.hgtL]
  | t :: ts, h => by
    simp only [PT.hgtL]
    have h1 := h t List.mem_cons_self
    have h2 := hgtL_bound ts (fun s hs => h s (List.mem_cons_of_mem _ hs))
    omega
theorem hgtL_le' : ∀ (ts : List PT) (m : Nat), (∀ s ∈ ts, s.hgt ≤ m) → PT.hgtL ts ≤ m
  | [], m, _ => by simp [PT.hgtL]
  | t :: ts, m, h => by
    simp only [PT.hgtL]
    have h1 := h t List.mem_cons_self
    have h2 := hgtL_le' ts m (fun s hs => h s (List.mem_cons_of_mem _ hs))
    omega
/-- Behind the making of a step: its block, its operands' row, the stack. -/
def StepCut (x : S54) (i : Nat) (st : List PT) (k : Nat) (A' : Option Addr) (c' : Nat) (w : World) (v7 : Value) (wc : World) : Prop :=
  ∃ (g7 : Nat) (A2 : Option Addr) (c2 : Nat), v7 = ptrV g7 ∧ Aside0 (wc.heap[g7]? = some (.cells #[.int .i64 x.f0, .string x.f1, .string x.f2, .slice A2 (st.length - k) c2, .int .i64 (i : Int), .int .i64 1] 97 (0, 0))) ∧
    Aside0 (Kd.R kStep 62 wc w.heap.size (fun q => q < g7 ∧ some q ≠ (.slice A' st.length c' : Value).ownBlock) (.slice A2 (st.length - k) c2) (st.drop k)) ∧
    Aside0 (Kd.R kStep 62 wc w.heap.size (fun q => q < g7) (.slice A' st.length c') st) ∧ Aside0 (w.heap.size ≤ g7) ∧ Aside0 (Below w.heap.size w wc)
theorem steps_cut {x : S54} {i : Nat} {st : List PT} {k : Nat} {A' : Option Addr} {c' : Nat} {w w1 w2 : World} {A2 : Option Addr} {c2 : Nat}
    (hR : Kd.R kStep 62 w2 w.heap.size (fun q => (True ∧ some q ≠ (.slice A' st.length c' : Value).ownBlock) ∨ w1.drew.heap.size ≤ q) (.slice A2 (st.length - k) c2) (st.drop k))
    (hS : Kd.R kStep 62 w1 w.heap.size (fun _ => True) (.slice A' st.length c') st) (hB : Below w.heap.size w w1) (hB2 : Below w1.drew.heap.size w1.drew w2) :
    StepCut x i st k A' c' w (ptrV w2.heap.size) (w2.alloc (.cells #[.int .i64 x.f0, .string x.f1, .string x.f2, .slice A2 (st.length - k) c2, .int .i64 (i : Int), .int .i64 1] 97)) := by
  have hB3 : Below w.heap.size w w2 := below_then (below_drew1 hB) hB.size hB2
  have hS2 := Kd.R_below (Kd.R_drew hS) hB2
  refine ⟨w2.heap.size, A2, c2, rfl, ⟨blk_new w2 _⟩, ⟨?_⟩, ⟨?_⟩, ⟨hB3.size⟩, ⟨hB3.alloc hB3.size _⟩⟩
  · refine Kd.R_alloc (Kd.R_mono (Kd.R_bound hR) (fun q hq => ⟨hq.2.2.1, ?_⟩)) _
    rcases hq.1 with h | h
    · exact h.2
    · intro he
      have h9 : q < w1.heap.size := Kd.R_lt hS q he.symm
      have h10 : w1.drew.heap.size = w1.heap.size := rfl
      omega
  · exact Kd.R_alloc (Kd.R_mono (Kd.R_bound hS2) (fun q hq => hq.2.2.1)) _
set_option maxHeartbeats 8000000 in
set_option maxRecDepth 100000 in
theorem steps_calls (A : Option Addr) (c : Nat) (l : List S54) (w : World) (hr : Kd.C k54 w A l.length l) (hc : l.length ≤ c) (hl : l.length ≤ 1048576) :
    Calls Try.prog 62 #[.slice A l.length c] w (StepsPost l w) := by
  have HR := Aside0.mk hr
  have HL := Aside0.mk hl
  have HB := Aside0.mk (Below.refl w.heap.size w)
  clear hr
  have hu := Try.underlying54
  have hus := Try.underlying97
  obtain ⟨i0, hi0, hsz0⟩ := Option.map_eq_some_iff.1 infoSl
  have HI0 := Aside0.mk hi0
  have HSZ0 := Aside0.mk hsz0
  clear hi0 hsz0
  go_enter Try.func62, Try.ntmps62
  go_wp2_with fail
  go_loopg [3, 12] l.length (fun kq v3 v12 wr => ∃ (i : Nat) (st : List PT) (A : Option Addr) (c : Nat), v12 = .int .i64 i ∧ v3 = .slice A st.length c ∧ Aside0 (i ≤ l.length ∧ kq = l.length - i) ∧ Aside0 (Kd.R kStep 62 wr w.heap.size (fun _ => True) (.slice A st.length c) st) ∧ Aside0 (runP (l.drop i) i st = runP l 0 []) ∧ Aside0 (st.length ≤ i) ∧ Aside0 (∀ s ∈ st, s.hgt ≤ i) ∧ Aside0 (Below w.heap.size w wr))
  case atStart => exact ⟨0, [], none, 0, rfl, rfl, ⟨by omega, rfl⟩, ⟨Kd.R_nil _ _ _ _ _⟩, ⟨by simp⟩, ⟨by simp⟩, ⟨by simp⟩, HB⟩
  case round =>
    obtain ⟨i, st, A', c', rfl, rfl, HI, HS, HP, HN, HH, HB⟩ := hrel
    by_cases ci : (i : Int) < (l.length : Int)
    · obtain ⟨ad, e_, c0, c1, c2⟩ := at_T54 (Kd.C_below HR.out HB.out) (i : Int) (by omega) (by omega)
      cases e_
      rw [Int.toNat_natCast, gN_rd] at c0 c1 c2
      have hd : l.drop i = gN l i :: l.drop (i + 1) := by rw [gN_at l i (by omega)]; exact List.drop_eq_getElem_cons (by omega)
      have hP := HP.out
      rw [hd] at hP
      have hn := HN.out
      have hst0 : 0 ≤ (st.length : Int) := by omega
      have hst1 : (st.length : Int) ≤ 1048576 := by have := HL.out; omega
      generalize gN l i = x at *
      have HP := Aside0.mk hP
      clear hP hd hn
      have hax := arN_le x.f0
      go_wp2_with fail
      refine (impl_PNode_arity.calls 1 x.f0 x.f1 x.f2 _ _ (iar_ev 0)).mono ?_
      rintro e w1 ⟨rfl, gb⟩
      have K5 := Aside0.mk (blk_newB gb)
      have HS1 := Aside0.mk (Kd.R_below (Kd.R_alloc HS.out (.cells #[.int .i64 x.f0, .string x.f1, .string x.f2] 54)) gb)
      have HB1 := Aside0.mk (below_step (below_alloc HB.out _) gb)
      have hg5 : wr.heap.size < w1.heap.size := blk_lt K5.out
      have hwg : Aside0 (w.heap.size ≤ wr.heap.size) := ⟨HB.out.size⟩
      clear gb HS HB c0 c1 c2
      generalize wr.heap.size = g5 at *
      generalize har : arN x.f0 = ar at *
      by_cases ck : st.length < ar
      · go_wp2_with fail
        go_ret
        refine ⟨.inr ⟨fun t ht => ?_, rfl⟩, HB1.out⟩
        have := HP.out
        rw [ht] at this
        simp only [runP] at this
        rw [if_pos (by omega)] at this
        cases this
      · obtain ⟨k, hkk⟩ : ∃ k : Nat, st.length = k + ar := ⟨st.length - ar, by omega⟩
        have hki : (st.length : Int) - (ar : Int) = (k : Int) := by omega
        have HKK := Aside0.mk hkk
        clear hkk
        have hk0 : (0 : Int) ≤ (k : Int) := by omega
        go_upto_region 9 with (fail)
        clear hki hk0
        have hkl : k ≤ st.length := by have := HKK.out; omega
        go_cut [7] (fun v7 wc => StepCut x i st k A' c' w v7 wc)
        case first =>
          have hka : st.length - k = ar := by have := HKK.out; omega
          obtain ⟨hsc, hrm⟩ := R_readsM HS1.out
          have hrd := ReadsRow_drop (c := c') hrm hkl hsc
          have HDL := Aside0.mk (show (st.drop k).length = st.length - k from List.length_drop)
          have HKC := Aside0.mk (show st.length - k ≤ c' - k by omega)
          have HDM := Aside0.mk (show st.length - k ≤ 1048576 by omega)
          have i1 : (0 : Int) ≤ (k : Int) := by omega
          have i2 : (k : Int) ≤ (st.length : Int) := by omega
          have i3 : (st.length : Int) ≤ (c' : Int) := by omega
          have hsome : ¬ c' = k → ∃ g, A' = some ⟨g, 0, none⟩ := by
            intro hne
            obtain ⟨inner, ho⟩ := Kd.R_own HS1.out
            rcases ho.2 with ⟨h1, h2⟩ | ⟨g, cap, cur, h1, _⟩
            · injection h1 with _ _ h3
              omega
            · injection h1 with h1 _ _
              exact ⟨g, h1⟩
          have x0 : w1.cell? ⟨g5, 0, none⟩ = some (.int .i64 x.f0) := (blk_cell K5.out 0).trans rfl
          have x1 : w1.cell? ⟨g5, 1, none⟩ = some (.string x.f1) := (blk_cell K5.out 1).trans rfl
          have x2 : w1.cell? ⟨g5, 2, none⟩ = some (.string x.f2) := (blk_cell K5.out 2).trans rfl
          have hbd : Below w1.heap.size w1 w1.drew := below_drew1 (Below.refl _ _)
          replace hrd := hrd.imp_ hbd (fun _ _ hp => Kd.M_below hp hbd)
          have HW1 : Aside0 (w.heap.size ≤ w1.drew.heap.size) := ⟨HB1.out.size⟩
          clear hka hkl hrm hsc hbd
          by_cases hck : c' = k
          · have hck2 := hck.symm
            subst hck2
            rw [if_pos rfl] at hrd
            have HRD := Aside0.mk hrd
            have HKC : Aside0 (st.length - k ≤ 0) := ⟨by omega⟩
            clear hrd hsome hck
            go_region_with (go_at_call 86; refine (cloneS_n w.heap.size _ _ _ _ (st.drop k) HDL.out _ HRD.out HKC.out HW1.out HDM.out).mono ?_; rintro e w2 ⟨A2, c2, rfl, hR, hB⟩; (have K5b := Aside0.mk (blk_below (blk_drew K5.out) hB)); (have HRk := Aside0.mk hR); (have HB2 := Aside0.mk hB); clear hR hB; (have x0 : w2.cell? ⟨g5, 0, none⟩ = some (.int .i64 x.f0) := (blk_cell K5b.out 0).trans rfl); (have x1 : w2.cell? ⟨g5, 1, none⟩ = some (.string x.f1) := (blk_cell K5b.out 1).trans rfl); (have x2 : w2.cell? ⟨g5, 2, none⟩ = some (.string x.f2) := (blk_cell K5b.out 2).trans rfl); (have xl := blk_lt K5b.out))
            all_goals
              go_wp2_with fail
              go_meet
              exact steps_cut HRk.out HS1.out HB1.out HB2.out
          · rw [if_neg hck] at hrd
            obtain ⟨g, rfl⟩ := hsome hck
            have e9 : (some ⟨g, 0, none⟩ : Option Addr).map (·.add (k * 1)) = some ⟨g, k, none⟩ := by simp [Addr.add]; exact fun h => h.symm
            rw [e9] at hrd
            have HRD := Aside0.mk hrd
            clear e9 hrd hsome
            go_region_with (go_at_call 86; refine (cloneS_n w.heap.size _ _ _ _ (st.drop k) HDL.out _ HRD.out HKC.out HW1.out HDM.out).mono ?_; rintro e w2 ⟨A2, c2, rfl, hR, hB⟩; (have K5b := Aside0.mk (blk_below (blk_drew K5.out) hB)); (have HRk := Aside0.mk hR); (have HB2 := Aside0.mk hB); clear hR hB; (have x0 : w2.cell? ⟨g5, 0, none⟩ = some (.int .i64 x.f0) := (blk_cell K5b.out 0).trans rfl); (have x1 : w2.cell? ⟨g5, 1, none⟩ = some (.string x.f1) := (blk_cell K5b.out 1).trans rfl); (have x2 : w2.cell? ⟨g5, 2, none⟩ = some (.string x.f2) := (blk_cell K5b.out 2).trans rfl); (have xl := blk_lt K5b.out))
            all_goals
              go_wp2_with fail
              go_meet
              exact steps_cut HRk.out HS1.out HB1.out HB2.out
        case rest =>
          obtain ⟨g7, A2, c2, rfl, K7, HK, HS, HG, HB⟩ := hcut
          have hnl : (st.drop k).length = st.length - k := List.length_drop
          have hnb : st.length - k ≤ 1048576 := by omega
          have HKA := Aside0.mk (show st.length - k = ar by have := HKK.out; omega)
          generalize hnn : st.length - k = n at *
          generalize hks : st.drop k = ks at *
          have HNL := Aside0.mk hnl
          have HNN := Aside0.mk hnn
          have HKS := Aside0.mk hks
          clear hnl hnn hks K5 HS1 HB1 hg5
          have y3 : wc.cell? ⟨g7, 3, none⟩ = some (.slice A2 n c2) := (blk_cell K7.out 3).trans rfl
          have yl := blk_lt K7.out
          simp only [ptrV]
          go_wp2_with fail
          clear y3 yl
          have hth : ∀ s ∈ ks, s.hgt ≤ 1048576 := fun s hs => by have := HH.out s (by rw [← HKS.out] at hs; exact List.mem_of_mem_drop hs); have := HL.out; omega
          have HTH := Aside0.mk hth
          clear hth
          go_loopg [37] n (fun kq v37 w' => ∃ j : Nat, v37 = .int .i64 j ∧ Aside0 (j ≤ n ∧ kq = n - j) ∧
            Aside0 (w'.heap[g7]? = some (.cells #[.int .i64 x.f0, .string x.f1, .string x.f2, .slice A2 n c2, .int .i64 (i : Int), .int .i64 ((PT.hgtL (ks.take j) + 1 : Nat) : Int)] 97 (0, 0))) ∧
            Aside0 (Kd.R kStep 62 w' w.heap.size (fun q => q < g7 ∧ some q ≠ (.slice A' st.length c' : Value).ownBlock) (.slice A2 n c2) ks) ∧ Aside0 (Kd.R kStep 62 w' w.heap.size (fun q => q < g7) (.slice A' st.length c') st) ∧ Aside0 (Below w.heap.size w w'))
          case atStart => exact ⟨0, rfl, ⟨by omega, rfl⟩, K7, HK, HS, HB⟩
          case round =>
            obtain ⟨j, rfl, HJ, K7, HK, HS, HB⟩ := hrel
            by_cases cj : (j : Int) < (n : Int)
            · obtain ⟨t, ht⟩ : ∃ t, ks[j]? = some t := ⟨ks[j]'(by have := HNL.out; omega), List.getElem?_eq_getElem (by have := HNL.out; omega)⟩
              obtain ⟨gk, b, rfl, hcell, hpt⟩ := kid_at HK.out j t ht
              obtain ⟨hh, ⟨_, hb7, _⟩, _⟩ := hpt.hgt_cell
              have HT := Aside0.mk ht
              have y5 : wr.cell? ⟨g7, 5, none⟩ = some (.int .i64 ((PT.hgtL (ks.take j) + 1 : Nat) : Int)) := (blk_cell K7.out 5).trans rfl
              have f5 := blk_frozen K7.out 5
              have yl := blk_lt K7.out
              have hgt1 : t.hgt ≤ 1048576 := HTH.out t (List.mem_of_getElem? ht)
              have hgt2 : PT.hgtL (ks.take j) ≤ 1048576 := hgtL_bound _ (fun s hs => HTH.out s (List.mem_of_mem_take hs))
              have hne : b ≠ g7 := by omega
              have hnx : PT.hgtL (ks.take (j + 1)) = max (PT.hgtL (ks.take j)) t.hgt := by
                obtain ⟨hjl, hje⟩ := List.getElem?_eq_some_iff.1 ht
                rw [List.take_succ_eq_append_getElem hjl, hje, hgtL_append]
                simp [PT.hgtL]
              have HNX := Aside0.mk hnx
              clear hnx
              generalize hm1 : PT.hgtL (ks.take j) = m1 at *
              generalize hm2 : t.hgt = m2 at *
              have HM1 := Aside0.mk hm1
              have HM2 := Aside0.mk hm2
              clear hm1 hm2 hpt hb7 ht
              simp only [ptrV] at hcell
              have hj0 : (0 : Int) ≤ (j : Int) := by omega
              have hwm : IntKind.i64.wrap ((m2 : Int) + 1) = (m2 : Int) + 1 := by rw [i64_w]; unfold wrap64; omega
              go_wp2_with fail
              refine wp_region_still_tail 13 (by kernel_rfl) (by kernel_rfl) ?_
              simp only [List.take_succ_cons, List.take_zero, List.drop_succ_cons, List.drop_zero]
              repeat still_step
              refine wpStill_nil ?_
              have HP7 : Aside0 (∀ v : Int, v = ((max m1 m2 + 1 : Nat) : Int) → (wr.setCell ⟨g7, 5, none⟩ (.int .i64 v)).drew.heap[g7]? = some (.cells #[.int .i64 x.f0, .string x.f1, .string x.f2, .slice (some ⟨gk, 0, none⟩) n c2, .int .i64 (i : Int), .int .i64 ((PT.hgtL (ks.take (j + 1)) + 1 : Nat) : Int)] 97 (0, 0))) := ⟨fun v hv => by
                rw [HNX.out, ← hv]
                exact blk_put K7.out 5 _ rfl⟩
              have HK' : Aside0 (∀ v : Value, Kd.R kStep 62 (wr.setCell ⟨g7, 5, none⟩ v).drew w.heap.size (fun q => q < g7 ∧ some q ≠ (.slice A' st.length c' : Value).ownBlock) (.slice (some ⟨gk, 0, none⟩) n c2) ks) := ⟨fun v => Kd.R_drew (Kd.R_far (p := ⟨g7, 5, none⟩) HK.out (fun _ hq => Nat.ne_of_lt hq.1) v)⟩
              have HS' : Aside0 (∀ v : Value, Kd.R kStep 62 (wr.setCell ⟨g7, 5, none⟩ v).drew w.heap.size (fun q => q < g7) (.slice A' st.length c') st) := ⟨fun v => Kd.R_drew (Kd.R_far (p := ⟨g7, 5, none⟩) HS.out (fun _ hq => Nat.ne_of_lt hq) v)⟩
              have HB' : Aside0 (∀ v : Value, Below w.heap.size w (wr.setCell ⟨g7, 5, none⟩ v).drew) := ⟨fun v => (HB.out.setCell HG.out v).drew⟩
              go_wp2_with fail
              all_goals
                go_roundg (n - (j + 1))
                case measure => have := HJ.out; omega
                case rel => exact ⟨j + 1, by first | rfl | go_num, ⟨by omega, rfl⟩, ⟨HP7.out _ (by omega)⟩, ⟨HK'.out _⟩, ⟨HS'.out _⟩, ⟨HB'.out _⟩⟩
            · have hjn : j = n := by have := HJ.out; omega
              subst hjn
              have k1 : (0 : Int) ≤ (k : Int) := by omega
              have k2 : (k : Int) ≤ (st.length : Int) := by omega
              have k3 : (k : Int) ≤ (c' : Int) := by have := (Kd.R_reads' HS.out).2.1; omega
              have k4 : (st.length : Int) ≤ (c' : Int) := by have := (Kd.R_reads' HS.out).2.1; omega
              have HT := Aside0.mk (Kd.R_take HS.out (m := k) hkl)
              have HM : Aside0 (kStep.M wr w.heap.size (fun q => some q ≠ (.slice A' k c' : Value).ownBlock) (PT.mk x i ks) [ptrV g7]) := ⟨by
                have hob : (.slice A' k c' : Value).ownBlock = (.slice A' st.length c' : Value).ownBlock := by cases A' <;> rfl
                obtain ⟨bs, hk1, hk2, _⟩ := kid_of_R HK.out
                rw [hob]
                refine ⟨g7, rfl, ?_⟩
                simp only [PTr]
                refine ⟨⟨HG.out, fun he => ?_⟩, _, bs, ?_, hk1.step (fun q hq _ _ => ⟨rfl, hq.1, hq.2.2⟩), PTrL.step (fun q hq _ _ => ⟨rfl, hq.1, hq.2.2⟩) ks bs hk2⟩
                · have := HS.out.1 g7 he.symm
                  omega
                · have hk7 := K7.out
                  rw [List.take_of_length_le (by have := HNL.out; omega)] at hk7
                  exact hk7⟩
              have hlt : (st.take k).length = k := by rw [List.length_take]; omega
              have HLT := Aside0.mk hlt
              clear hlt
              have hbz : w.heap.size ≤ wr.heap.size := HB.out.size
              simp only [ptrV] at HM
              go_wp2_with ((with_reducible refine gate_builtin (b := .append) (xs := #[.tmp 57, .tmp 59]) rfl ?_); at_builtin; go_loud (refine Kd.R_append kStep (w0 := w) w.heap.size rfl (.tmp 57) (.tmp 59) 95 62 (.pointer none) 8 rfl Try.underlying95 infoStep rfl (by decide) (by decide) (.slice A' k c') (st.take k) (PT.mk x i ks) [.pointer (some ⟨g7, 0, none⟩)] (fun _ => True) (fun q => some q ≠ (.slice A' k c' : Value).ownBlock) rfl rfl HM.out (fun q hq => ⟨trivial, hq⟩) (fun _ _ => trivial) (Kd.R_mono HT.out (fun _ _ => trivial)) HB.out hbz (by rw [HLT.out]; omega) ?_); intro v1 w9 ho hb hg hat; clear hg hat; obtain ⟨A9, c9, rfl⟩ := Kd.R_slice ho; have HO := Aside0.mk ho; have HB9 := Aside0.mk hb; clear ho hb)
              go_roundg (l.length - (i + 1))
              case measure => have := HI.out; omega
              case rel =>
                refine ⟨i + 1, st.take k ++ [PT.mk x i ks], A9, c9, by first | rfl | go_num, by rw [List.length_append, HLT.out]; rfl, ⟨by omega, rfl⟩, HO, ⟨?_⟩, ⟨?_⟩, ⟨?_⟩, HB9⟩
                · have hp := HP.out
                  rw [runP_step (by have := HKK.out; omega), show st.length - arN x.f0 = k by have := HKK.out; omega, HKS.out] at hp
                  exact hp
                · rw [List.length_append, HLT.out]; have := HN.out; simp; omega
                · intro s hs
                  rcases List.mem_append.1 hs with hs | hs
                  · have := HH.out s (List.mem_of_mem_take hs); omega
                  · simp only [List.mem_singleton] at hs
                    subst hs
                    simp only [PT.hgt]
                    have := hgtL_le' ks i (fun s hs => HH.out s (by rw [← HKS.out] at hs; exact List.mem_of_mem_drop hs))
                    omega
    · have hin : i = l.length := by have := HI.out; omega
      have hp := HP.out
      rw [List.drop_of_length_le (by omega)] at hp
      simp only [runP] at hp
      have HP := Aside0.mk hp
      clear hp
      by_cases c1 : st.length = 1
      · obtain ⟨t, rfl⟩ := List.length_eq_one_iff.1 c1
        obtain ⟨g, b, rfl, hcell, hpt⟩ := kid_at HS.out 0 t rfl
        have HPT := Aside0.mk hpt
        simp only [ptrV] at hcell
        clear hpt c1
        simp only [List.length_singleton]
        go_wp2_with fail
        go_ret
        exact ⟨.inl ⟨t, b, HP.out.symm, rfl, PTr.step (fun q hq _ _ => ⟨rfl, hq.1⟩) t b HPT.out⟩, HB.out⟩
      · have c2 : ¬ (st.length : Int) = 1 := by omega
        have c3 : ((st.length : Int) == 1) = false := beq_eq_false_iff_ne.2 c2
        have c4 : ((st.length : Int) != 1) = true := bne_iff_ne.2 c2
        go_wp2_with fail
        go_ret
        refine ⟨.inr ⟨fun t ht => ?_, rfl⟩, HB.out⟩
        have h9 := HP.out
        rw [ht] at h9
        injection h9 with h9
        exact c1 (by rw [h9]; rfl)

/-! ### impl_valid: a text by hand -/
-- import Derived.Deep.RegionLaw
-- import Derived.WalkSpells
def ValidPost (l : List S54) (w : World) (e : Ending) (w' : World) : Prop :=
  ((∃ t b, treeP l = some t ∧ e = .returned (ptrV b) ∧ PTr w' (fun k => w.heap.size ≤ k) t b) ∨ (treeP l = none ∧ e = .returned (.pointer none))) ∧ Below w.heap.size w w'
theorem treeP_long {l : List S54} (h : ¬ l.length ≤ 100) : treeP l = none := by unfold treeP; rw [if_neg (fun h9 => h h9.1)]
theorem treeP_bad {l : List S54} (h : allG l = false) : treeP l = none := by
  unfold treeP
  rw [if_neg]
  rintro ⟨_, h9⟩
  unfold allG at h
  rw [h9] at h
  cases h
theorem treeP_run {l : List S54} (h : l.length ≤ 100) (hg : allG l = true) (hn : ∀ t, runP l 0 [] ≠ some [t]) : treeP l = none := by
  unfold treeP
  rw [if_pos ⟨h, hg⟩]
  cases hr : runP l 0 [] with
  | none => rfl
  | some st =>
    match st, hr with
    | [], _ => rfl
    | [t], hr => exact absurd hr (hn t)
    | _ :: _ :: _, _ => rfl
theorem treeP_one {l : List S54} (h : l.length ≤ 100) (hg : allG l = true) {t : PT} (hr : runP l 0 [] = some [t]) : treeP l = if t.hgt ≤ 64 then some t else none := by
  unfold treeP
  rw [if_pos ⟨h, hg⟩, hr]
set_option maxHeartbeats 4000000 in
set_option maxRecDepth 100000 in
theorem valid_calls (A : Option Addr) (c : Nat) (l : List S54) (w : World) (hr : Kd.C k54 w A l.length l) (hc : l.length ≤ c) :
    Calls Try.prog 36 #[.agg #[.slice A l.length c]] w (ValidPost l w) := by
  have HR := Aside0.mk hr
  have HC := Aside0.mk hc
  have hlen : l.length ≤ 9223372036854775807 := hr.2.1
  have HB := Aside0.mk (Below.refl w.heap.size w)
  clear hr hc
  have hu := Try.underlying29
  have hus := Try.underlying97
  by_cases c1 : (l.length : Int) > 100
  · have HT := Aside0.mk (treeP_long (l := l) (by omega))
    go_enter Try.func36, Try.ntmps36
    go_wp2_with fail
    go_ret
    exact ⟨.inr ⟨HT.out, rfl⟩, below_alloc HB.out _⟩
  · have c1b : decide ((l.length : Int) > 100) = false := decide_eq_false c1
    have hl : l.length ≤ 100 := by omega
    have HL := Aside0.mk hl
    clear hlen hl
    go_enter Try.func36, Try.ntmps36
    go_wp2_with fail
    refine (containsBad_calls A c l _ (Kd.C_alloc HR.out _) HC.out (by have := HL.out; omega)).mono ?_
    rintro e w1 ⟨rfl, gb⟩
    have K1 := Aside0.mk (blk_newB gb)
    have HB1 := Aside0.mk (below_step (below_alloc HB.out _) gb)
    have HR1 := Aside0.mk (Kd.C_below HR.out HB1.out)
    clear gb HB
    cases hg : allG l with
    | false =>
      have HT := Aside0.mk (treeP_bad hg)
      clear hg
      go_wp2_with fail
      go_ret
      exact ⟨.inr ⟨HT.out, rfl⟩, HB1.out⟩
    | true =>
      have HG := Aside0.mk hg
      clear hg
      have y0 : w1.cell? ⟨w.heap.size, 0, none⟩ = some (.slice A l.length c) := (blk_cell K1.out 0).trans rfl
      go_wp2_with fail
      refine (steps_calls A c l _ HR1.out HC.out (by have := HL.out; omega)).mono ?_
      rintro e w2 ⟨hp, gb⟩
      have HB2 := Aside0.mk (below_step HB1.out gb)
      have hsz := HB1.out.size
      clear gb y0
      rcases hp with ⟨t, b, hrun, rfl, hpt⟩ | ⟨hn, rfl⟩
      · have HT := Aside0.mk (treeP_one HL.out HG.out hrun)
        obtain ⟨hh, _, hbl⟩ := hpt.hgt_cell
        have HPT := Aside0.mk (PTr.step (ok1 := fun k => w.heap.size ≤ k) (fun q hq _ _ => ⟨rfl, Nat.le_trans hsz hq⟩) t b hpt)
        clear hrun hpt
        simp only [ptrV]
        by_cases ch : (t.hgt : Int) > 64
        · have HT2 := Aside0.mk (show treeP l = none by rw [HT.out, if_neg (by omega)])
          clear HT
          go_wp2_with fail
          go_ret
          exact ⟨.inr ⟨HT2.out, rfl⟩, HB2.out⟩
        · have HT2 := Aside0.mk (show treeP l = some t by rw [HT.out, if_pos (by omega)])
          clear HT
          go_wp2_with fail
          go_ret
          exact ⟨.inl ⟨t, b, HT2.out, rfl, HPT.out⟩, HB2.out⟩
      · have HT := Aside0.mk (treeP_run HL.out HG.out hn)
        clear hn
        go_wp2_with fail
        go_ret
        exact ⟨.inr ⟨HT.out, rfl⟩, HB2.out⟩

/-! ### impl_ValidPath: function 10, proved by hand -/
set_option maxHeartbeats 4000000 in
set_option maxRecDepth 100000 in
theorem impl_ValidPath.calls (k : Nat) (A0_0 : Option Addr) (c0_0 : Nat) (l0_0 : List (S54)) (r : Bool) (w : World) (hr0_0 : Kd.C k54 w A0_0 l0_0.length l0_0) (hc0_0 : l0_0.length ≤ c0_0) (h : spec_ValidPath.f k l0_0 = some r) :
    Calls Try.prog 10 #[.agg #[.slice A0_0 l0_0.length c0_0]] w fun e w' => e = .returned (.bool r) ∧ Below w.heap.size w w' := by
  obtain rfl := ev_eq (spec_ValidPath.mono _) (validPath_ev l0_0) h
  clear h
  have HR := Aside0.mk hr0_0
  have HC := Aside0.mk hc0_0
  have HB := Aside0.mk (Below.refl w.heap.size w)
  clear hr0_0 hc0_0
  have hu := Try.underlying29
  go_enter Try.func10, Try.ntmps10
  go_wp2_with fail
  refine (valid_calls A0_0 c0_0 l0_0 _ (Kd.C_alloc HR.out _) HC.out).mono ?_
  rintro e w1 ⟨hp, gb⟩
  have HB1 := Aside0.mk (below_step (below_alloc HB.out _) gb)
  clear gb HB
  rcases hp with ⟨t, b, ht, rfl, hpt⟩ | ⟨ht, rfl⟩
  · have HT := Aside0.mk (show (treeP l0_0).isSome = true by rw [ht]; rfl)
    clear ht hpt
    simp only [ptrV]
    go_wp2_with fail
    go_ret
    exact ⟨by rw [HT.out]; rfl, HB1.out⟩
  · have HT := Aside0.mk (show (treeP l0_0).isSome = false by rw [ht]; rfl)
    clear ht
    go_wp2_with fail
    go_ret
    exact ⟨by rw [HT.out]; rfl, HB1.out⟩

/-! ### laws_eqPNode: function 63 -/
def laws_eqPNode.f (a0_0 : Int) (a0_1 : ByteArray) (a0_2 : ByteArray) (a1_0 : Int) (a1_1 : ByteArray) (a1_2 : ByteArray) : Option (Bool) := if a0_0 = a1_0 then (if a0_1.toList = a1_1.toList then (if a0_2.toList = a1_2.toList then (some true) else (some false)) else (some false)) else (some false)
set_option maxHeartbeats 8000000 in
set_option maxRecDepth 100000 in
theorem laws_eqPNode.calls (a0_0 : Int) (a0_1 : ByteArray) (a0_2 : ByteArray) (a1_0 : Int) (a1_1 : ByteArray) (a1_2 : ByteArray) (r : Bool) (w : World) (h : laws_eqPNode.f a0_0 a0_1 a0_2 a1_0 a1_1 a1_2 = some r) :
    Calls Try.prog 63 #[.agg #[.int .i64 a0_0, .string a0_1, .string a0_2], .agg #[.int .i64 a1_0, .string a1_1, .string a1_2]] w fun e w' => e = .returned (.bool r) ∧ Below w.heap.size w w' := by
  have hu54 := Try.underlying54
  have HB := Aside0.mk (Below.refl w.heap.size w)
  have H : (if a0_0 = a1_0 then (if a0_1.toList = a1_1.toList then (if a0_2.toList = a1_2.toList then (some true) else (some false)) else (some false)) else (some false)) = some r := h
  clear h
  by_cases c3 : a0_0 = a1_0
  · rw [if_pos c3] at H
    have c3b0 : (a0_0 == a1_0) = true := beq_iff_eq.mpr c3
    have c3b1 : (a0_0 != a1_0) = false := bne_eq_false_iff_eq.mpr c3
    clear c3
    by_cases c4 : a0_1.toList = a1_1.toList
    · rw [if_pos c4] at H
      have c4b0 : (a0_1.toList == a1_1.toList) = true := beq_iff_eq.mpr c4
      have c4b1 : (a0_1.toList != a1_1.toList) = false := bne_eq_false_iff_eq.mpr c4
      clear c4
      by_cases c5 : a0_2.toList = a1_2.toList
      · rw [if_pos c5] at H
        have c5b0 : (a0_2.toList == a1_2.toList) = true := beq_iff_eq.mpr c5
        have c5b1 : (a0_2.toList != a1_2.toList) = false := bne_eq_false_iff_eq.mpr c5
        clear c5
        obtain rfl := Option.some.inj H
        go_enter Try.func63, Try.ntmps63
        go_wp2_with (first | ((with_reducible refine gate_dst (N := 2) rfl ?_); refine box_event ?hg (N := 2) ?hd (cs := #[.int .i64 a0_0, .string a0_1, .string a0_2]) (t := 54) ?hr ?_; (case hd => rfl); (case hg => rfl); (case hr => first | (go_simp; done) | (go_simp; rfl)); intro gb171 hg w6 hbox hb; have n0_ := Aside0.mk (below_step (by repeat (first | (with_reducible first | exact HB.out | apply below_alloc | apply pw_below_drewN | apply below_drew1) | exact HB.out)) hb); have n1_ := Aside0.mk (hbox); have n2_ := Aside0.mk ((by rw [hg]; exact (below_size (by repeat (first | (with_reducible first | exact HB.out | apply below_alloc | apply pw_below_drewN | apply below_drew1) | exact HB.out))) : w.heap.size ≤ gb171)); have n3_ := Aside0.mk ((by rw [hg]; exact (below_size (by repeat (first | (with_reducible first | exact HB.out | apply below_alloc | apply pw_below_drewN | apply below_drew1) | exact HB.out))) : w.heap.size ≤ gb171)); clear HB; have HB := n0_; have BK171 := n1_; have GW171 := n2_; have GE171 := n3_; clear n0_ n1_ n2_ n3_; clear hb hbox hg) | ((with_reducible refine gate_dst (N := 3) rfl ?_); refine box_event ?hg (N := 3) ?hd (cs := #[.int .i64 a1_0, .string a1_1, .string a1_2]) (t := 54) ?hr ?_; (case hd => rfl); (case hg => rfl); (case hr => first | (go_simp; done) | (go_simp; rfl)); intro gb172 hg w7 hbox hb; have n0_ := Aside0.mk (blk_below (g := gb171) (o := .cells #[.int .i64 a0_0, .string a0_1, .string a0_2] 54 (0, 0)) (by (with_reducible repeat (first | refine blk_drewN ?_ _ | refine blk_drew ?_ | refine blk_alloc ?_ _)); exact BK171.out) hb); have n1_ := Aside0.mk (below_step (by repeat (first | (with_reducible first | exact HB.out | apply below_alloc | apply pw_below_drewN | apply below_drew1 | refine below_set ?_ GE171.out) | exact HB.out)) hb); have n2_ := Aside0.mk (hbox); have n3_ := Aside0.mk ((by rw [hg]; exact (below_size (by repeat (first | (with_reducible first | exact HB.out | apply below_alloc | apply pw_below_drewN | apply below_drew1 | refine below_set ?_ GE171.out) | exact HB.out))) : w.heap.size ≤ gb172)); have n4_ := Aside0.mk ((by rw [hg]; exact (below_size (by repeat (first | (with_reducible first | exact HB.out | apply below_alloc | apply pw_below_drewN | apply below_drew1 | refine below_set ?_ GE171.out) | exact HB.out))) : w.heap.size ≤ gb172)); have n5_ := Aside0.mk ((by rw [hg]; exact Nat.ne_of_lt (blk_lt (g := gb171) (o := .cells #[.int .i64 a0_0, .string a0_1, .string a0_2] 54 (0, 0)) (by (with_reducible repeat (first | refine blk_drewN ?_ _ | refine blk_drew ?_ | refine blk_alloc ?_ _)); exact BK171.out)) : gb171 ≠ gb172)); have n6_ := Aside0.mk ((by rw [hg]; exact Nat.ne_of_gt (blk_lt (g := gb171) (o := .cells #[.int .i64 a0_0, .string a0_1, .string a0_2] 54 (0, 0)) (by (with_reducible repeat (first | refine blk_drewN ?_ _ | refine blk_drew ?_ | refine blk_alloc ?_ _)); exact BK171.out)) : gb172 ≠ gb171)); clear BK171; clear HB; have BK171 := n0_; have HB := n1_; have BK172 := n2_; have GW172 := n3_; have GE172 := n4_; have NB171_172 := n5_; have NB172_171 := n6_; clear n0_ n1_ n2_ n3_ n4_ n5_ n6_; clear hb hbox hg; have hnb8 := NB171_172.out; have hnc8 := NB172_171.out; have hcz9_0 : w7.cell? ⟨gb171, 0, none⟩ = some (.int .i64 a0_0) := (blk_cell BK171.out 0).trans rfl; have hcz9_1 : w7.cell? ⟨gb171, 1, none⟩ = some (.string a0_1) := (blk_cell BK171.out 1).trans rfl; have hcz9_2 : w7.cell? ⟨gb171, 2, none⟩ = some (.string a0_2) := (blk_cell BK171.out 2).trans rfl; have hfz9_0 := blk_frozen BK171.out 0; have hfz9_1 := blk_frozen BK171.out 1; have hfz9_2 := blk_frozen BK171.out 2; have hcz10_0 : w7.cell? ⟨gb172, 0, none⟩ = some (.int .i64 a1_0) := (blk_cell BK172.out 0).trans rfl; have hcz10_1 : w7.cell? ⟨gb172, 1, none⟩ = some (.string a1_1) := (blk_cell BK172.out 1).trans rfl; have hcz10_2 : w7.cell? ⟨gb172, 2, none⟩ = some (.string a1_2) := (blk_cell BK172.out 2).trans rfl; have hfz10_0 := blk_frozen BK172.out 0; have hfz10_1 := blk_frozen BK172.out 1; have hfz10_2 := blk_frozen BK172.out 2))
        go_ret
        exact ⟨by first | rfl | (simp [errW_none, errW_some] <;> rfl) | (simp [*, errW_none, errW_some] <;> rfl), by repeat (first | (with_reducible first | exact HB.out | apply below_alloc | apply pw_below_drewN | apply below_drew1 | refine below_set ?_ GE171.out | refine below_set ?_ GE172.out) | exact HB.out)⟩
      · rw [if_neg c5] at H
        have c5b0 : (a0_2.toList == a1_2.toList) = false := beq_eq_false_iff_ne.mpr c5
        have c5b1 : (a0_2.toList != a1_2.toList) = true := bne_iff_ne.mpr c5
        obtain rfl := Option.some.inj H
        go_enter Try.func63, Try.ntmps63
        go_wp2_with (first | ((with_reducible refine gate_dst (N := 2) rfl ?_); refine box_event ?hg (N := 2) ?hd (cs := #[.int .i64 a0_0, .string a0_1, .string a0_2]) (t := 54) ?hr ?_; (case hd => rfl); (case hg => rfl); (case hr => first | (go_simp; done) | (go_simp; rfl)); intro gb171 hg w11 hbox hb; have n0_ := Aside0.mk (below_step (by repeat (first | (with_reducible first | exact HB.out | apply below_alloc | apply pw_below_drewN | apply below_drew1) | exact HB.out)) hb); have n1_ := Aside0.mk (hbox); have n2_ := Aside0.mk ((by rw [hg]; exact (below_size (by repeat (first | (with_reducible first | exact HB.out | apply below_alloc | apply pw_below_drewN | apply below_drew1) | exact HB.out))) : w.heap.size ≤ gb171)); have n3_ := Aside0.mk ((by rw [hg]; exact (below_size (by repeat (first | (with_reducible first | exact HB.out | apply below_alloc | apply pw_below_drewN | apply below_drew1) | exact HB.out))) : w.heap.size ≤ gb171)); clear HB; have HB := n0_; have BK171 := n1_; have GW171 := n2_; have GE171 := n3_; clear n0_ n1_ n2_ n3_; clear hb hbox hg) | ((with_reducible refine gate_dst (N := 3) rfl ?_); refine box_event ?hg (N := 3) ?hd (cs := #[.int .i64 a1_0, .string a1_1, .string a1_2]) (t := 54) ?hr ?_; (case hd => rfl); (case hg => rfl); (case hr => first | (go_simp; done) | (go_simp; rfl)); intro gb172 hg w12 hbox hb; have n0_ := Aside0.mk (blk_below (g := gb171) (o := .cells #[.int .i64 a0_0, .string a0_1, .string a0_2] 54 (0, 0)) (by (with_reducible repeat (first | refine blk_drewN ?_ _ | refine blk_drew ?_ | refine blk_alloc ?_ _)); exact BK171.out) hb); have n1_ := Aside0.mk (below_step (by repeat (first | (with_reducible first | exact HB.out | apply below_alloc | apply pw_below_drewN | apply below_drew1 | refine below_set ?_ GE171.out) | exact HB.out)) hb); have n2_ := Aside0.mk (hbox); have n3_ := Aside0.mk ((by rw [hg]; exact (below_size (by repeat (first | (with_reducible first | exact HB.out | apply below_alloc | apply pw_below_drewN | apply below_drew1 | refine below_set ?_ GE171.out) | exact HB.out))) : w.heap.size ≤ gb172)); have n4_ := Aside0.mk ((by rw [hg]; exact (below_size (by repeat (first | (with_reducible first | exact HB.out | apply below_alloc | apply pw_below_drewN | apply below_drew1 | refine below_set ?_ GE171.out) | exact HB.out))) : w.heap.size ≤ gb172)); have n5_ := Aside0.mk ((by rw [hg]; exact Nat.ne_of_lt (blk_lt (g := gb171) (o := .cells #[.int .i64 a0_0, .string a0_1, .string a0_2] 54 (0, 0)) (by (with_reducible repeat (first | refine blk_drewN ?_ _ | refine blk_drew ?_ | refine blk_alloc ?_ _)); exact BK171.out)) : gb171 ≠ gb172)); have n6_ := Aside0.mk ((by rw [hg]; exact Nat.ne_of_gt (blk_lt (g := gb171) (o := .cells #[.int .i64 a0_0, .string a0_1, .string a0_2] 54 (0, 0)) (by (with_reducible repeat (first | refine blk_drewN ?_ _ | refine blk_drew ?_ | refine blk_alloc ?_ _)); exact BK171.out)) : gb172 ≠ gb171)); clear BK171; clear HB; have BK171 := n0_; have HB := n1_; have BK172 := n2_; have GW172 := n3_; have GE172 := n4_; have NB171_172 := n5_; have NB172_171 := n6_; clear n0_ n1_ n2_ n3_ n4_ n5_ n6_; clear hb hbox hg; have hnb13 := NB171_172.out; have hnc13 := NB172_171.out; have hcz14_0 : w12.cell? ⟨gb171, 0, none⟩ = some (.int .i64 a0_0) := (blk_cell BK171.out 0).trans rfl; have hcz14_1 : w12.cell? ⟨gb171, 1, none⟩ = some (.string a0_1) := (blk_cell BK171.out 1).trans rfl; have hcz14_2 : w12.cell? ⟨gb171, 2, none⟩ = some (.string a0_2) := (blk_cell BK171.out 2).trans rfl; have hfz14_0 := blk_frozen BK171.out 0; have hfz14_1 := blk_frozen BK171.out 1; have hfz14_2 := blk_frozen BK171.out 2; have hcz15_0 : w12.cell? ⟨gb172, 0, none⟩ = some (.int .i64 a1_0) := (blk_cell BK172.out 0).trans rfl; have hcz15_1 : w12.cell? ⟨gb172, 1, none⟩ = some (.string a1_1) := (blk_cell BK172.out 1).trans rfl; have hcz15_2 : w12.cell? ⟨gb172, 2, none⟩ = some (.string a1_2) := (blk_cell BK172.out 2).trans rfl; have hfz15_0 := blk_frozen BK172.out 0; have hfz15_1 := blk_frozen BK172.out 1; have hfz15_2 := blk_frozen BK172.out 2))
        go_ret
        exact ⟨by first | rfl | (simp [errW_none, errW_some] <;> rfl) | (simp [*, errW_none, errW_some] <;> rfl), by repeat (first | (with_reducible first | exact HB.out | apply below_alloc | apply pw_below_drewN | apply below_drew1 | refine below_set ?_ GE171.out | refine below_set ?_ GE172.out) | exact HB.out)⟩
    · rw [if_neg c4] at H
      have c4b0 : (a0_1.toList == a1_1.toList) = false := beq_eq_false_iff_ne.mpr c4
      have c4b1 : (a0_1.toList != a1_1.toList) = true := bne_iff_ne.mpr c4
      obtain rfl := Option.some.inj H
      go_enter Try.func63, Try.ntmps63
      go_wp2_with (first | ((with_reducible refine gate_dst (N := 2) rfl ?_); refine box_event ?hg (N := 2) ?hd (cs := #[.int .i64 a0_0, .string a0_1, .string a0_2]) (t := 54) ?hr ?_; (case hd => rfl); (case hg => rfl); (case hr => first | (go_simp; done) | (go_simp; rfl)); intro gb171 hg w16 hbox hb; have n0_ := Aside0.mk (below_step (by repeat (first | (with_reducible first | exact HB.out | apply below_alloc | apply pw_below_drewN | apply below_drew1) | exact HB.out)) hb); have n1_ := Aside0.mk (hbox); have n2_ := Aside0.mk ((by rw [hg]; exact (below_size (by repeat (first | (with_reducible first | exact HB.out | apply below_alloc | apply pw_below_drewN | apply below_drew1) | exact HB.out))) : w.heap.size ≤ gb171)); have n3_ := Aside0.mk ((by rw [hg]; exact (below_size (by repeat (first | (with_reducible first | exact HB.out | apply below_alloc | apply pw_below_drewN | apply below_drew1) | exact HB.out))) : w.heap.size ≤ gb171)); clear HB; have HB := n0_; have BK171 := n1_; have GW171 := n2_; have GE171 := n3_; clear n0_ n1_ n2_ n3_; clear hb hbox hg) | ((with_reducible refine gate_dst (N := 3) rfl ?_); refine box_event ?hg (N := 3) ?hd (cs := #[.int .i64 a1_0, .string a1_1, .string a1_2]) (t := 54) ?hr ?_; (case hd => rfl); (case hg => rfl); (case hr => first | (go_simp; done) | (go_simp; rfl)); intro gb172 hg w17 hbox hb; have n0_ := Aside0.mk (blk_below (g := gb171) (o := .cells #[.int .i64 a0_0, .string a0_1, .string a0_2] 54 (0, 0)) (by (with_reducible repeat (first | refine blk_drewN ?_ _ | refine blk_drew ?_ | refine blk_alloc ?_ _)); exact BK171.out) hb); have n1_ := Aside0.mk (below_step (by repeat (first | (with_reducible first | exact HB.out | apply below_alloc | apply pw_below_drewN | apply below_drew1 | refine below_set ?_ GE171.out) | exact HB.out)) hb); have n2_ := Aside0.mk (hbox); have n3_ := Aside0.mk ((by rw [hg]; exact (below_size (by repeat (first | (with_reducible first | exact HB.out | apply below_alloc | apply pw_below_drewN | apply below_drew1 | refine below_set ?_ GE171.out) | exact HB.out))) : w.heap.size ≤ gb172)); have n4_ := Aside0.mk ((by rw [hg]; exact (below_size (by repeat (first | (with_reducible first | exact HB.out | apply below_alloc | apply pw_below_drewN | apply below_drew1 | refine below_set ?_ GE171.out) | exact HB.out))) : w.heap.size ≤ gb172)); have n5_ := Aside0.mk ((by rw [hg]; exact Nat.ne_of_lt (blk_lt (g := gb171) (o := .cells #[.int .i64 a0_0, .string a0_1, .string a0_2] 54 (0, 0)) (by (with_reducible repeat (first | refine blk_drewN ?_ _ | refine blk_drew ?_ | refine blk_alloc ?_ _)); exact BK171.out)) : gb171 ≠ gb172)); have n6_ := Aside0.mk ((by rw [hg]; exact Nat.ne_of_gt (blk_lt (g := gb171) (o := .cells #[.int .i64 a0_0, .string a0_1, .string a0_2] 54 (0, 0)) (by (with_reducible repeat (first | refine blk_drewN ?_ _ | refine blk_drew ?_ | refine blk_alloc ?_ _)); exact BK171.out)) : gb172 ≠ gb171)); clear BK171; clear HB; have BK171 := n0_; have HB := n1_; have BK172 := n2_; have GW172 := n3_; have GE172 := n4_; have NB171_172 := n5_; have NB172_171 := n6_; clear n0_ n1_ n2_ n3_ n4_ n5_ n6_; clear hb hbox hg; have hnb18 := NB171_172.out; have hnc18 := NB172_171.out; have hcz19_0 : w17.cell? ⟨gb171, 0, none⟩ = some (.int .i64 a0_0) := (blk_cell BK171.out 0).trans rfl; have hcz19_1 : w17.cell? ⟨gb171, 1, none⟩ = some (.string a0_1) := (blk_cell BK171.out 1).trans rfl; have hcz19_2 : w17.cell? ⟨gb171, 2, none⟩ = some (.string a0_2) := (blk_cell BK171.out 2).trans rfl; have hfz19_0 := blk_frozen BK171.out 0; have hfz19_1 := blk_frozen BK171.out 1; have hfz19_2 := blk_frozen BK171.out 2; have hcz20_0 : w17.cell? ⟨gb172, 0, none⟩ = some (.int .i64 a1_0) := (blk_cell BK172.out 0).trans rfl; have hcz20_1 : w17.cell? ⟨gb172, 1, none⟩ = some (.string a1_1) := (blk_cell BK172.out 1).trans rfl; have hcz20_2 : w17.cell? ⟨gb172, 2, none⟩ = some (.string a1_2) := (blk_cell BK172.out 2).trans rfl; have hfz20_0 := blk_frozen BK172.out 0; have hfz20_1 := blk_frozen BK172.out 1; have hfz20_2 := blk_frozen BK172.out 2))
      go_ret
      exact ⟨by first | rfl | (simp [errW_none, errW_some] <;> rfl) | (simp [*, errW_none, errW_some] <;> rfl), by repeat (first | (with_reducible first | exact HB.out | apply below_alloc | apply pw_below_drewN | apply below_drew1 | refine below_set ?_ GE171.out | refine below_set ?_ GE172.out) | exact HB.out)⟩
  · rw [if_neg c3] at H
    have c3b0 : (a0_0 == a1_0) = false := beq_eq_false_iff_ne.mpr c3
    have c3b1 : (a0_0 != a1_0) = true := bne_iff_ne.mpr c3
    obtain rfl := Option.some.inj H
    go_enter Try.func63, Try.ntmps63
    go_wp2_with (first | ((with_reducible refine gate_dst (N := 2) rfl ?_); refine box_event ?hg (N := 2) ?hd (cs := #[.int .i64 a0_0, .string a0_1, .string a0_2]) (t := 54) ?hr ?_; (case hd => rfl); (case hg => rfl); (case hr => first | (go_simp; done) | (go_simp; rfl)); intro gb171 hg w21 hbox hb; have n0_ := Aside0.mk (below_step (by repeat (first | (with_reducible first | exact HB.out | apply below_alloc | apply pw_below_drewN | apply below_drew1) | exact HB.out)) hb); have n1_ := Aside0.mk (hbox); have n2_ := Aside0.mk ((by rw [hg]; exact (below_size (by repeat (first | (with_reducible first | exact HB.out | apply below_alloc | apply pw_below_drewN | apply below_drew1) | exact HB.out))) : w.heap.size ≤ gb171)); have n3_ := Aside0.mk ((by rw [hg]; exact (below_size (by repeat (first | (with_reducible first | exact HB.out | apply below_alloc | apply pw_below_drewN | apply below_drew1) | exact HB.out))) : w.heap.size ≤ gb171)); clear HB; have HB := n0_; have BK171 := n1_; have GW171 := n2_; have GE171 := n3_; clear n0_ n1_ n2_ n3_; clear hb hbox hg) | ((with_reducible refine gate_dst (N := 3) rfl ?_); refine box_event ?hg (N := 3) ?hd (cs := #[.int .i64 a1_0, .string a1_1, .string a1_2]) (t := 54) ?hr ?_; (case hd => rfl); (case hg => rfl); (case hr => first | (go_simp; done) | (go_simp; rfl)); intro gb172 hg w22 hbox hb; have n0_ := Aside0.mk (blk_below (g := gb171) (o := .cells #[.int .i64 a0_0, .string a0_1, .string a0_2] 54 (0, 0)) (by (with_reducible repeat (first | refine blk_drewN ?_ _ | refine blk_drew ?_ | refine blk_alloc ?_ _)); exact BK171.out) hb); have n1_ := Aside0.mk (below_step (by repeat (first | (with_reducible first | exact HB.out | apply below_alloc | apply pw_below_drewN | apply below_drew1 | refine below_set ?_ GE171.out) | exact HB.out)) hb); have n2_ := Aside0.mk (hbox); have n3_ := Aside0.mk ((by rw [hg]; exact (below_size (by repeat (first | (with_reducible first | exact HB.out | apply below_alloc | apply pw_below_drewN | apply below_drew1 | refine below_set ?_ GE171.out) | exact HB.out))) : w.heap.size ≤ gb172)); have n4_ := Aside0.mk ((by rw [hg]; exact (below_size (by repeat (first | (with_reducible first | exact HB.out | apply below_alloc | apply pw_below_drewN | apply below_drew1 | refine below_set ?_ GE171.out) | exact HB.out))) : w.heap.size ≤ gb172)); have n5_ := Aside0.mk ((by rw [hg]; exact Nat.ne_of_lt (blk_lt (g := gb171) (o := .cells #[.int .i64 a0_0, .string a0_1, .string a0_2] 54 (0, 0)) (by (with_reducible repeat (first | refine blk_drewN ?_ _ | refine blk_drew ?_ | refine blk_alloc ?_ _)); exact BK171.out)) : gb171 ≠ gb172)); have n6_ := Aside0.mk ((by rw [hg]; exact Nat.ne_of_gt (blk_lt (g := gb171) (o := .cells #[.int .i64 a0_0, .string a0_1, .string a0_2] 54 (0, 0)) (by (with_reducible repeat (first | refine blk_drewN ?_ _ | refine blk_drew ?_ | refine blk_alloc ?_ _)); exact BK171.out)) : gb172 ≠ gb171)); clear BK171; clear HB; have BK171 := n0_; have HB := n1_; have BK172 := n2_; have GW172 := n3_; have GE172 := n4_; have NB171_172 := n5_; have NB172_171 := n6_; clear n0_ n1_ n2_ n3_ n4_ n5_ n6_; clear hb hbox hg; have hnb23 := NB171_172.out; have hnc23 := NB172_171.out; have hcz24_0 : w22.cell? ⟨gb171, 0, none⟩ = some (.int .i64 a0_0) := (blk_cell BK171.out 0).trans rfl; have hcz24_1 : w22.cell? ⟨gb171, 1, none⟩ = some (.string a0_1) := (blk_cell BK171.out 1).trans rfl; have hcz24_2 : w22.cell? ⟨gb171, 2, none⟩ = some (.string a0_2) := (blk_cell BK171.out 2).trans rfl; have hfz24_0 := blk_frozen BK171.out 0; have hfz24_1 := blk_frozen BK171.out 1; have hfz24_2 := blk_frozen BK171.out 2; have hcz25_0 : w22.cell? ⟨gb172, 0, none⟩ = some (.int .i64 a1_0) := (blk_cell BK172.out 0).trans rfl; have hcz25_1 : w22.cell? ⟨gb172, 1, none⟩ = some (.string a1_1) := (blk_cell BK172.out 1).trans rfl; have hcz25_2 : w22.cell? ⟨gb172, 2, none⟩ = some (.string a1_2) := (blk_cell BK172.out 2).trans rfl; have hfz25_0 := blk_frozen BK172.out 0; have hfz25_1 := blk_frozen BK172.out 1; have hfz25_2 := blk_frozen BK172.out 2))
    go_ret
    exact ⟨by first | rfl | (simp [errW_none, errW_some] <;> rfl) | (simp [*, errW_none, errW_some] <;> rfl), by repeat (first | (with_reducible first | exact HB.out | apply below_alloc | apply pw_below_drewN | apply below_drew1 | refine below_set ?_ GE171.out | refine below_set ?_ GE172.out) | exact HB.out)⟩

/-! ### laws_eqPNodeS: function 37 -/
def laws_eqPNodeS.l0 : Nat → List (S54) → List (S54) → Int → Option (Bool)
  | 0, _, _, _ => none
  | k + 1, x0, x1, x5 => if x5 < (x0.length : Int) then (if 0 ≤ x5 then (if x5 < (x1.length : Int) then ((laws_eqPNode.f ((rd_T54 x0 x5).f0) ((rd_T54 x0 x5).f1) ((rd_T54 x0 x5).f2) ((rd_T54 x1 x5).f0) ((rd_T54 x1 x5).f1) ((rd_T54 x1 x5).f2)).bind fun t175 => (if t175 = true then (laws_eqPNodeS.l0 k x0 x1 (wrap64 (x5 + 1))) else (some false))) else (none)) else (none)) else (some true)
def laws_eqPNodeS.f (k : Nat) (l0 : List (S54)) (l1 : List (S54)) : Option (Bool) := if (l0.length : Int) = (l1.length : Int) then (laws_eqPNodeS.l0 k l0 l1 0) else (some false)
theorem laws_eqPNodeS.mono_l : ∀ k, (∀ y0 y1 y2, LeO (laws_eqPNodeS.l0 k y0 y1 y2) (laws_eqPNodeS.l0 (k + 1) y0 y1 y2))
  | 0 => fun _ _ _ r h => by simp [laws_eqPNodeS.l0] at h
  | k + 1 => by
    have ih0 := laws_eqPNodeS.mono_l k
    · intro y0 y1 y2
      unfold laws_eqPNodeS.l0
      repeat' first
      | (with_reducible exact ih0 _ _ _)
      | (with_reducible exact LeO.refl _)
      | (with_reducible exact LeO.none _)
      | (with_reducible refine LeO.ite ?_ ?_)
      | (with_reducible refine LeO.bind ?_ (fun _ => ?_))
      | exact ih0 _ _ _
      | exact LeO.none _
      | refine LeO.ite ?_ ?_
      | refine LeO.bind ?_ (fun _ => ?_)
theorem laws_eqPNodeS.mono : ∀ a0 a1 k, LeO (laws_eqPNodeS.f k a0 a1) (laws_eqPNodeS.f (k + 1) a0 a1) := by
  intro a0 a1 k
  have ih0 := laws_eqPNodeS.mono_l k
  unfold laws_eqPNodeS.f
  repeat' first
      | (with_reducible exact ih0 _ _ _)
      | (with_reducible exact LeO.refl _)
      | (with_reducible exact LeO.none _)
      | (with_reducible refine LeO.ite ?_ ?_)
      | (with_reducible refine LeO.bind ?_ (fun _ => ?_))
      | exact ih0 _ _ _
      | exact LeO.none _
      | refine LeO.ite ?_ ?_
      | refine LeO.bind ?_ (fun _ => ?_)
def laws_eqPNodeS.T6 : Bool × List (List Nat × List Nat) := (true, [([], []), ([], []), ([0, 1], [0, 1]), ([2], [2]), ([], []), ([], []), ([4, 5], [4, 5]), ([6], [6]), ([3, 7], [3, 7]), ([8], [8])])
def laws_eqPNodeS.B6 : List Nat := [0, 0, 3, 7, 0, 0, 48, 112, 255, 511]
theorem laws_eqPNodeS.tab6 : rtab .any (opsOf Try.f37 6) = laws_eqPNodeS.T6 := by kernel_rfl
theorem laws_eqPNodeS.bits6 : waitsOk laws_eqPNodeS.T6.2 laws_eqPNodeS.B6 = true := by kernel_rfl
set_option maxHeartbeats 8000000 in
set_option maxRecDepth 100000 in
theorem laws_eqPNodeS.calls (k : Nat) (A0 : Option Addr) (c0 : Nat) (l0 : List (S54)) (A1 : Option Addr) (c1 : Nat) (l1 : List (S54)) (r : Bool) (w : World) (hr0 : Kd.C k54 w A0 l0.length l0) (hc0 : l0.length ≤ c0) (hr1 : Kd.C k54 w A1 l1.length l1) (hc1 : l1.length ≤ c1) (h : laws_eqPNodeS.f k l0 l1 = some r) :
    Calls Try.prog 37 #[.slice A0 l0.length c0, .slice A1 l1.length c1] w fun e w' => e = .returned (.bool r) ∧ Below w.heap.size w w' := by
  have hu54 := Try.underlying54
  have HR0 := Aside0.mk hr0
  have HC0 := Aside0.mk hc0
  clear hr0 hc0
  have HR1 := Aside0.mk hr1
  have HC1 := Aside0.mk hc1
  clear hr1 hc1
  have HB := Aside0.mk (Below.refl w.heap.size w)
  have H : (if (l0.length : Int) = (l1.length : Int) then (laws_eqPNodeS.l0 k l0 l1 0) else (some false)) = some r := h
  clear h
  by_cases c3 : (l0.length : Int) = (l1.length : Int)
  · rw [if_pos c3] at H
    have c3b0 : ((l0.length : Int) == (l1.length : Int)) = true := beq_iff_eq.mpr c3
    have c3b1 : ((l0.length : Int) != (l1.length : Int)) = false := bne_eq_false_iff_eq.mpr c3
    have c3b2 : (l0.length == l1.length) = true := by first | simpa using c3 | (simp at c3 ⊢; omega)
    clear c3
    have H' := Aside0.mk H
    clear H
    go_enter Try.func37, Try.ntmps37
    go_wp2
    go_loopg [5] k (fun kq v5 w' => ∃ (x5_1 : Int), v5 = .int .i64 x5_1 ∧ Aside0 (laws_eqPNodeS.l0 kq l0 l1 x5_1 = some r) ∧ Aside0 (kq ≤ k) ∧ Aside0 (Below w.heap.size w w'))
    case atStart => exact ⟨(0), (by first | rfl | (simp; done) | (simp [*]; done)), H', ⟨Nat.le_refl _⟩, ⟨by repeat (first | (with_reducible first | exact HB.out | apply below_alloc | apply pw_below_drewN | apply below_drew1) | exact HB.out)⟩⟩
    case round =>
      clear H'
      try clear c1
      try clear p2
      try clear c3
      try clear c3b0
      try clear c3b1
      try clear c3b2
      obtain ⟨x5_1, rfl, HA, HK1, HB⟩ := hrel
      cases gk with
      | zero => exact absurd HA.out (by simp [laws_eqPNodeS.l0])
      | succ k1 =>
        have H := HA.out
        clear HA
        simp only [laws_eqPNodeS.l0] at H
        by_cases c4 : x5_1 < (l0.length : Int)
        · rw [if_pos c4] at H
          have c4b0 : decide (x5_1 < (l0.length : Int)) = true := decide_eq_true c4
          clear c4
          by_cases c5 : 0 ≤ x5_1
          · rw [if_pos c5] at H
            have c5b0 : decide (0 ≤ x5_1) = true := decide_eq_true c5
            clear c5
            by_cases c6 : x5_1 < (l1.length : Int)
            · rw [if_pos c6] at H
              have c6b0 : decide (x5_1 < (l1.length : Int)) = true := decide_eq_true c6
              clear c6
              replace H := Option.bind_eq_some_iff.mp H
              obtain ⟨t175, A70, H⟩ := H
              replace H : (if t175 = true then (laws_eqPNodeS.l0 k1 l0 l1 (wrap64 (x5_1 + 1))) else (some false)) = some r := H
              have A7 := Aside0.mk A70
              clear A70
              by_cases c8 : t175 = true
              · subst c8
                have H1 : (laws_eqPNodeS.l0 k1 l0 l1 (wrap64 (x5_1 + 1))) = some r := by rw [if_pos rfl] at H; exact H
                clear H
                have H := H1
                clear H1
                have H' := Aside0.mk H
                clear H
                try go_wp2
                have n0_ := Aside0.mk (below_drew1 HB.out)
                clear HB
                have HB := n0_
                clear n0_
                have p173 : 0 ≤ (x5_1 : Int) := of_decide_eq_true (by first | (with_reducible assumption) | assumption)
                have q173 : x5_1 < (l0.length : Int) := of_decide_eq_true (by first | (with_reducible assumption) | assumption)
                obtain ⟨ad173, e173, hx173_0, hx173_1, hx173_2⟩ := at_T54 HR0.out x5_1 p173 q173
                have hw173_2 := hx173_2
                have hw173_1 := hx173_1
                have hw173_0 := hx173_0
                cases e173
                replace hx173_0 := (HB.out.cell (World.block_lt_of_cell? w _ hx173_0)).trans hx173_0
                replace hx173_1 := (HB.out.cell (World.block_lt_of_cell? w _ hx173_1)).trans hx173_1
                replace hx173_2 := (HB.out.cell (World.block_lt_of_cell? w _ hx173_2)).trans hx173_2
                replace p173 := eq_true p173
                replace q173 := eq_true q173
                have p174 : 0 ≤ (x5_1 : Int) := of_decide_eq_true (by first | (with_reducible assumption) | assumption)
                have q174 : x5_1 < (l1.length : Int) := of_decide_eq_true (by first | (with_reducible assumption) | assumption)
                obtain ⟨ad174, e174, hx174_0, hx174_1, hx174_2⟩ := at_T54 HR1.out x5_1 p174 q174
                have hw174_2 := hx174_2
                have hw174_1 := hx174_1
                have hw174_0 := hx174_0
                cases e174
                replace hx174_0 := (HB.out.cell (World.block_lt_of_cell? w _ hx174_0)).trans hx174_0
                replace hx174_1 := (HB.out.cell (World.block_lt_of_cell? w _ hx174_1)).trans hx174_1
                replace hx174_2 := (HB.out.cell (World.block_lt_of_cell? w _ hx174_2)).trans hx174_2
                replace p174 := eq_true p174
                replace q174 := eq_true q174
                refine start_ (n := 10) (S := fun w' => w'.cell? (ad173.add ((x5_1).toNat * 3)) = some (.int .i64 ((rd_T54 l0 x5_1).f0)) ∧ w'.cell? ⟨(ad173.add ((x5_1).toNat * 3)).block, (ad173.add ((x5_1).toNat * 3)).off + 1, none⟩ = some (.string ((rd_T54 l0 x5_1).f1)) ∧ w'.cell? ⟨(ad173.add ((x5_1).toNat * 3)).block, (ad173.add ((x5_1).toNat * 3)).off + 2, none⟩ = some (.string ((rd_T54 l0 x5_1).f2)) ∧ w'.cell? (ad174.add ((x5_1).toNat * 3)) = some (.int .i64 ((rd_T54 l1 x5_1).f0)) ∧ w'.cell? ⟨(ad174.add ((x5_1).toNat * 3)).block, (ad174.add ((x5_1).toNat * 3)).off + 1, none⟩ = some (.string ((rd_T54 l1 x5_1).f1)) ∧ w'.cell? ⟨(ad174.add ((x5_1).toNat * 3)).block, (ad174.add ((x5_1).toNat * 3)).off + 2, none⟩ = some (.string ((rd_T54 l1 x5_1).f2))) (ds := []) #[false, false, false, false, false, false, false, false, false, false] (by kernel_rfl) rfl rfl ⟨((HB.out.cell (World.block_lt_of_cell? w _ hw173_0)).trans hw173_0), ((HB.out.cell (World.block_lt_of_cell? w _ hw173_1)).trans hw173_1), ((HB.out.cell (World.block_lt_of_cell? w _ hw173_2)).trans hw173_2), ((HB.out.cell (World.block_lt_of_cell? w _ hw174_0)).trans hw174_0), ((HB.out.cell (World.block_lt_of_cell? w _ hw174_1)).trans hw174_1), ((HB.out.cell (World.block_lt_of_cell? w _ hw174_2)).trans hw174_2)⟩ (fun hHeld => ?_); refine with_tabW laws_eqPNodeS.tab6 laws_eqPNodeS.bits6 (fun HT_ HW_ => ?_)
                generalize wr.drew = w9 at HB hx173_0 hx173_1 hx173_2 hx174_0 hx174_1 hx174_2 hHeld ⊢
                refine pure_ (i := 0) (N := some 17) (v := ?_) (a' := ?_) #[true, false, false, false, false, false, false, false, false, false] rfl rfl (any_of HT_.out (by kernel_rfl)) (fun _ _ _ h => h) (Or.inl ⟨by rfl, ?_⟩) ?_ ?_
                rotate_left
                · intro w'
                  go_simp
                  with_reducible rfl
                rotate_left
                · simp only [Act.put, List.setIfInBounds_toArray, List.set_cons_zero, List.set_cons_succ, i64_w, i32_w]
                  rfl
                refine pure_ (i := 1) (N := some 18) (v := ?_) (a' := ?_) #[true, true, false, false, false, false, false, false, false, false] rfl rfl (any_of HT_.out (by kernel_rfl)) (fun _ _ _ h => h) (Or.inl ⟨by rfl, ?_⟩) ?_ ?_
                rotate_left
                · intro w'
                  go_simp
                  with_reducible rfl
                rotate_left
                · simp only [Act.put, List.setIfInBounds_toArray, List.set_cons_zero, List.set_cons_succ, i64_w, i32_w]
                  rfl
                refine pure_ (i := 2) (N := some 19) (v := ?_) (a' := ?_) #[true, true, true, false, false, false, false, false, false, false] rfl rfl (any_of HT_.out (by kernel_rfl)) (fun _ _ _ h => h) (Or.inl ⟨by rfl, ?_⟩) ?_ ?_
                rotate_left
                · intro w'
                  go_simp
                  with_reducible rfl
                rotate_left
                · simp only [Act.put, List.setIfInBounds_toArray, List.set_cons_zero, List.set_cons_succ, i64_w, i32_w]
                  rfl
                refine pure_ (i := 4) (N := some 21) (v := ?_) (a' := ?_) #[true, true, true, false, true, false, false, false, false, false] rfl rfl (any_of HT_.out (by kernel_rfl)) (fun _ _ _ h => h) (Or.inl ⟨by rfl, ?_⟩) ?_ ?_
                rotate_left
                · intro w'
                  go_simp
                  with_reducible rfl
                rotate_left
                · simp only [Act.put, List.setIfInBounds_toArray, List.set_cons_zero, List.set_cons_succ, i64_w, i32_w]
                  rfl
                refine pure_ (i := 5) (N := some 22) (v := ?_) (a' := ?_) #[true, true, true, false, true, true, false, false, false, false] rfl rfl (any_of HT_.out (by kernel_rfl)) (fun _ _ _ h => h) (Or.inl ⟨by rfl, ?_⟩) ?_ ?_
                rotate_left
                · intro w'
                  go_simp
                  with_reducible rfl
                rotate_left
                · simp only [Act.put, List.setIfInBounds_toArray, List.set_cons_zero, List.set_cons_succ, i64_w, i32_w]
                  rfl
                refine pure_ (i := 6) (N := some 23) (v := ?_) (a' := ?_) #[true, true, true, false, true, true, true, false, false, false] rfl rfl (any_of HT_.out (by kernel_rfl)) (fun _ _ _ h => h) (Or.inl ⟨by rfl, ?_⟩) ?_ ?_
                rotate_left
                · intro w'
                  go_simp
                  with_reducible rfl
                rotate_left
                · simp only [Act.put, List.setIfInBounds_toArray, List.set_cons_zero, List.set_cons_succ, i64_w, i32_w]
                  rfl
                refine take_ (i := 3) (N := some 20) (v := ?_) (a' := ?_) #[true, true, true, true, true, true, true, false, false, false] rfl rfl (take_ofW HT_.out HW_.out (by kernel_rfl)) (fun _ _ _ h => h) (Or.inl ⟨by rfl, ?_⟩) hHeld ?_ ?_
                rotate_left
                · rintro w' ⟨s0, s1, s2, s3, s4, s5⟩
                  go_simp
                  with_reducible rfl
                rotate_left
                · simp only [Act.put, List.setIfInBounds_toArray, List.set_cons_zero, List.set_cons_succ, i64_w, i32_w]
                  rfl
                refine take_ (i := 7) (N := some 24) (v := ?_) (a' := ?_) #[true, true, true, true, true, true, true, true, false, false] rfl rfl (take_ofW HT_.out HW_.out (by kernel_rfl)) (fun _ _ _ h => h) (Or.inl ⟨by rfl, ?_⟩) hHeld ?_ ?_
                rotate_left
                · rintro w' ⟨s0, s1, s2, s3, s4, s5⟩
                  go_simp
                  with_reducible rfl
                rotate_left
                · simp only [Act.put, List.setIfInBounds_toArray, List.set_cons_zero, List.set_cons_succ, i64_w, i32_w]
                  rfl
                refine one_ (i := 8) (N := some 25) #[true, true, true, true, true, true, true, true, true, false] rfl rfl (one_of HT_.out (by kernel_rfl)) (by decide) (fun K hK => ?_)
                refine goes_ Try.func63 (by kernel_rfl) rfl #[.agg #[.int .i64 ((rd_T54 l0 x5_1).f0), .string ((rd_T54 l0 x5_1).f1), .string ((rd_T54 l0 x5_1).f2)], .agg #[.int .i64 ((rd_T54 l1 x5_1).f0), .string ((rd_T54 l1 x5_1).f1), .string ((rd_T54 l1 x5_1).f2)]] (by rfl) rfl rfl (by (try simp only [List.map_toArray, List.map_cons, List.map_nil]); first | done | rfl | (simp only [List.length_drop, List.length_take]; rfl)) ?_
                with_reducible refine (laws_eqPNode.calls ((rd_T54 l0 x5_1).f0) ((rd_T54 l0 x5_1).f1) ((rd_T54 l0 x5_1).f2) ((rd_T54 l1 x5_1).f0) ((rd_T54 l1 x5_1).f1) ((rd_T54 l1 x5_1).f2) true _ A7.out).mono ?_
                rintro e w10 ⟨rfl, hb⟩
                refine ⟨_, rfl, ?_⟩
                have n0_ := Aside0.mk (below_step (by repeat (first | (with_reducible first | exact HB.out | apply below_alloc | apply pw_below_drewN | apply below_drew1) | exact HB.out)) hb)
                clear HB
                have HB := n0_
                clear n0_
                (try clear hb)
                (try clear hb2)
                (try clear hk)
                (try clear hi)
                refine hK.out _ _ ⟨((HB.out.cell (World.block_lt_of_cell? w _ hw173_0)).trans hw173_0), ((HB.out.cell (World.block_lt_of_cell? w _ hw173_1)).trans hw173_1), ((HB.out.cell (World.block_lt_of_cell? w _ hw173_2)).trans hw173_2), ((HB.out.cell (World.block_lt_of_cell? w _ hw174_0)).trans hw174_0), ((HB.out.cell (World.block_lt_of_cell? w _ hw174_1)).trans hw174_1), ((HB.out.cell (World.block_lt_of_cell? w _ hw174_2)).trans hw174_2)⟩ (fun hHeld => ?_)
                clear hK K
                refine norm_ (a' := ?_) ?_ ?_
                rotate_left
                · show Act.put _ (some 25) _ = _
                  simp only [Act.put, List.setIfInBounds_toArray, List.set_cons_zero, List.set_cons_succ, i64_w, i32_w]
                  rfl
                refine pure_ (i := 9) (N := some 26) (v := ?_) (a' := ?_) #[true, true, true, true, true, true, true, true, true, true] rfl rfl (any_of HT_.out (by kernel_rfl)) (fun _ _ _ h => h) (Or.inl ⟨by rfl, ?_⟩) ?_ ?_
                rotate_left
                · intro w'
                  go_simp
                  with_reducible rfl
                rotate_left
                · simp only [Act.put, List.setIfInBounds_toArray, List.set_cons_zero, List.set_cons_succ, i64_w, i32_w]
                  rfl
                refine done_ (done_of HT_.out (by kernel_rfl)) ?_
                try go_wp2
                go_roundg k1
                case measure => have := HK1.out; omega
                case rel => exact ⟨(wrap64 (x5_1 + 1)), (by first | rfl | (simp; done) | (simp [*]; done)), H', ⟨by have := HK1.out; omega⟩, ⟨by repeat (first | (with_reducible first | exact HB.out | apply below_alloc | apply pw_below_drewN | apply below_drew1) | exact HB.out)⟩⟩
              · replace c8 := Bool.eq_false_iff.mpr c8
                subst c8
                have H1 : (some false) = some r := by rw [if_neg (show ¬ (false = true) by decide)] at H; exact H
                clear H
                have H := H1
                clear H1
                obtain rfl := Option.some.inj H
                try go_wp2
                have n0_ := Aside0.mk (below_drew1 HB.out)
                clear HB
                have HB := n0_
                clear n0_
                have p173 : 0 ≤ (x5_1 : Int) := of_decide_eq_true (by first | (with_reducible assumption) | assumption)
                have q173 : x5_1 < (l0.length : Int) := of_decide_eq_true (by first | (with_reducible assumption) | assumption)
                obtain ⟨ad173, e173, hx173_0, hx173_1, hx173_2⟩ := at_T54 HR0.out x5_1 p173 q173
                have hw173_2 := hx173_2
                have hw173_1 := hx173_1
                have hw173_0 := hx173_0
                cases e173
                replace hx173_0 := (HB.out.cell (World.block_lt_of_cell? w _ hx173_0)).trans hx173_0
                replace hx173_1 := (HB.out.cell (World.block_lt_of_cell? w _ hx173_1)).trans hx173_1
                replace hx173_2 := (HB.out.cell (World.block_lt_of_cell? w _ hx173_2)).trans hx173_2
                replace p173 := eq_true p173
                replace q173 := eq_true q173
                have p174 : 0 ≤ (x5_1 : Int) := of_decide_eq_true (by first | (with_reducible assumption) | assumption)
                have q174 : x5_1 < (l1.length : Int) := of_decide_eq_true (by first | (with_reducible assumption) | assumption)
                obtain ⟨ad174, e174, hx174_0, hx174_1, hx174_2⟩ := at_T54 HR1.out x5_1 p174 q174
                have hw174_2 := hx174_2
                have hw174_1 := hx174_1
                have hw174_0 := hx174_0
                cases e174
                replace hx174_0 := (HB.out.cell (World.block_lt_of_cell? w _ hx174_0)).trans hx174_0
                replace hx174_1 := (HB.out.cell (World.block_lt_of_cell? w _ hx174_1)).trans hx174_1
                replace hx174_2 := (HB.out.cell (World.block_lt_of_cell? w _ hx174_2)).trans hx174_2
                replace p174 := eq_true p174
                replace q174 := eq_true q174
                refine start_ (n := 10) (S := fun w' => w'.cell? (ad173.add ((x5_1).toNat * 3)) = some (.int .i64 ((rd_T54 l0 x5_1).f0)) ∧ w'.cell? ⟨(ad173.add ((x5_1).toNat * 3)).block, (ad173.add ((x5_1).toNat * 3)).off + 1, none⟩ = some (.string ((rd_T54 l0 x5_1).f1)) ∧ w'.cell? ⟨(ad173.add ((x5_1).toNat * 3)).block, (ad173.add ((x5_1).toNat * 3)).off + 2, none⟩ = some (.string ((rd_T54 l0 x5_1).f2)) ∧ w'.cell? (ad174.add ((x5_1).toNat * 3)) = some (.int .i64 ((rd_T54 l1 x5_1).f0)) ∧ w'.cell? ⟨(ad174.add ((x5_1).toNat * 3)).block, (ad174.add ((x5_1).toNat * 3)).off + 1, none⟩ = some (.string ((rd_T54 l1 x5_1).f1)) ∧ w'.cell? ⟨(ad174.add ((x5_1).toNat * 3)).block, (ad174.add ((x5_1).toNat * 3)).off + 2, none⟩ = some (.string ((rd_T54 l1 x5_1).f2))) (ds := []) #[false, false, false, false, false, false, false, false, false, false] (by kernel_rfl) rfl rfl ⟨((HB.out.cell (World.block_lt_of_cell? w _ hw173_0)).trans hw173_0), ((HB.out.cell (World.block_lt_of_cell? w _ hw173_1)).trans hw173_1), ((HB.out.cell (World.block_lt_of_cell? w _ hw173_2)).trans hw173_2), ((HB.out.cell (World.block_lt_of_cell? w _ hw174_0)).trans hw174_0), ((HB.out.cell (World.block_lt_of_cell? w _ hw174_1)).trans hw174_1), ((HB.out.cell (World.block_lt_of_cell? w _ hw174_2)).trans hw174_2)⟩ (fun hHeld => ?_); refine with_tabW laws_eqPNodeS.tab6 laws_eqPNodeS.bits6 (fun HT_ HW_ => ?_)
                generalize wr.drew = w11 at HB hx173_0 hx173_1 hx173_2 hx174_0 hx174_1 hx174_2 hHeld ⊢
                refine pure_ (i := 0) (N := some 17) (v := ?_) (a' := ?_) #[true, false, false, false, false, false, false, false, false, false] rfl rfl (any_of HT_.out (by kernel_rfl)) (fun _ _ _ h => h) (Or.inl ⟨by rfl, ?_⟩) ?_ ?_
                rotate_left
                · intro w'
                  go_simp
                  with_reducible rfl
                rotate_left
                · simp only [Act.put, List.setIfInBounds_toArray, List.set_cons_zero, List.set_cons_succ, i64_w, i32_w]
                  rfl
                refine pure_ (i := 1) (N := some 18) (v := ?_) (a' := ?_) #[true, true, false, false, false, false, false, false, false, false] rfl rfl (any_of HT_.out (by kernel_rfl)) (fun _ _ _ h => h) (Or.inl ⟨by rfl, ?_⟩) ?_ ?_
                rotate_left
                · intro w'
                  go_simp
                  with_reducible rfl
                rotate_left
                · simp only [Act.put, List.setIfInBounds_toArray, List.set_cons_zero, List.set_cons_succ, i64_w, i32_w]
                  rfl
                refine pure_ (i := 2) (N := some 19) (v := ?_) (a' := ?_) #[true, true, true, false, false, false, false, false, false, false] rfl rfl (any_of HT_.out (by kernel_rfl)) (fun _ _ _ h => h) (Or.inl ⟨by rfl, ?_⟩) ?_ ?_
                rotate_left
                · intro w'
                  go_simp
                  with_reducible rfl
                rotate_left
                · simp only [Act.put, List.setIfInBounds_toArray, List.set_cons_zero, List.set_cons_succ, i64_w, i32_w]
                  rfl
                refine pure_ (i := 4) (N := some 21) (v := ?_) (a' := ?_) #[true, true, true, false, true, false, false, false, false, false] rfl rfl (any_of HT_.out (by kernel_rfl)) (fun _ _ _ h => h) (Or.inl ⟨by rfl, ?_⟩) ?_ ?_
                rotate_left
                · intro w'
                  go_simp
                  with_reducible rfl
                rotate_left
                · simp only [Act.put, List.setIfInBounds_toArray, List.set_cons_zero, List.set_cons_succ, i64_w, i32_w]
                  rfl
                refine pure_ (i := 5) (N := some 22) (v := ?_) (a' := ?_) #[true, true, true, false, true, true, false, false, false, false] rfl rfl (any_of HT_.out (by kernel_rfl)) (fun _ _ _ h => h) (Or.inl ⟨by rfl, ?_⟩) ?_ ?_
                rotate_left
                · intro w'
                  go_simp
                  with_reducible rfl
                rotate_left
                · simp only [Act.put, List.setIfInBounds_toArray, List.set_cons_zero, List.set_cons_succ, i64_w, i32_w]
                  rfl
                refine pure_ (i := 6) (N := some 23) (v := ?_) (a' := ?_) #[true, true, true, false, true, true, true, false, false, false] rfl rfl (any_of HT_.out (by kernel_rfl)) (fun _ _ _ h => h) (Or.inl ⟨by rfl, ?_⟩) ?_ ?_
                rotate_left
                · intro w'
                  go_simp
                  with_reducible rfl
                rotate_left
                · simp only [Act.put, List.setIfInBounds_toArray, List.set_cons_zero, List.set_cons_succ, i64_w, i32_w]
                  rfl
                refine take_ (i := 3) (N := some 20) (v := ?_) (a' := ?_) #[true, true, true, true, true, true, true, false, false, false] rfl rfl (take_ofW HT_.out HW_.out (by kernel_rfl)) (fun _ _ _ h => h) (Or.inl ⟨by rfl, ?_⟩) hHeld ?_ ?_
                rotate_left
                · rintro w' ⟨s0, s1, s2, s3, s4, s5⟩
                  go_simp
                  with_reducible rfl
                rotate_left
                · simp only [Act.put, List.setIfInBounds_toArray, List.set_cons_zero, List.set_cons_succ, i64_w, i32_w]
                  rfl
                refine take_ (i := 7) (N := some 24) (v := ?_) (a' := ?_) #[true, true, true, true, true, true, true, true, false, false] rfl rfl (take_ofW HT_.out HW_.out (by kernel_rfl)) (fun _ _ _ h => h) (Or.inl ⟨by rfl, ?_⟩) hHeld ?_ ?_
                rotate_left
                · rintro w' ⟨s0, s1, s2, s3, s4, s5⟩
                  go_simp
                  with_reducible rfl
                rotate_left
                · simp only [Act.put, List.setIfInBounds_toArray, List.set_cons_zero, List.set_cons_succ, i64_w, i32_w]
                  rfl
                refine one_ (i := 8) (N := some 25) #[true, true, true, true, true, true, true, true, true, false] rfl rfl (one_of HT_.out (by kernel_rfl)) (by decide) (fun K hK => ?_)
                refine goes_ Try.func63 (by kernel_rfl) rfl #[.agg #[.int .i64 ((rd_T54 l0 x5_1).f0), .string ((rd_T54 l0 x5_1).f1), .string ((rd_T54 l0 x5_1).f2)], .agg #[.int .i64 ((rd_T54 l1 x5_1).f0), .string ((rd_T54 l1 x5_1).f1), .string ((rd_T54 l1 x5_1).f2)]] (by rfl) rfl rfl (by (try simp only [List.map_toArray, List.map_cons, List.map_nil]); first | done | rfl | (simp only [List.length_drop, List.length_take]; rfl)) ?_
                with_reducible refine (laws_eqPNode.calls ((rd_T54 l0 x5_1).f0) ((rd_T54 l0 x5_1).f1) ((rd_T54 l0 x5_1).f2) ((rd_T54 l1 x5_1).f0) ((rd_T54 l1 x5_1).f1) ((rd_T54 l1 x5_1).f2) false _ A7.out).mono ?_
                rintro e w12 ⟨rfl, hb⟩
                refine ⟨_, rfl, ?_⟩
                have n0_ := Aside0.mk (below_step (by repeat (first | (with_reducible first | exact HB.out | apply below_alloc | apply pw_below_drewN | apply below_drew1) | exact HB.out)) hb)
                clear HB
                have HB := n0_
                clear n0_
                (try clear hb)
                (try clear hb2)
                (try clear hk)
                (try clear hi)
                refine hK.out _ _ ⟨((HB.out.cell (World.block_lt_of_cell? w _ hw173_0)).trans hw173_0), ((HB.out.cell (World.block_lt_of_cell? w _ hw173_1)).trans hw173_1), ((HB.out.cell (World.block_lt_of_cell? w _ hw173_2)).trans hw173_2), ((HB.out.cell (World.block_lt_of_cell? w _ hw174_0)).trans hw174_0), ((HB.out.cell (World.block_lt_of_cell? w _ hw174_1)).trans hw174_1), ((HB.out.cell (World.block_lt_of_cell? w _ hw174_2)).trans hw174_2)⟩ (fun hHeld => ?_)
                clear hK K
                refine norm_ (a' := ?_) ?_ ?_
                rotate_left
                · show Act.put _ (some 25) _ = _
                  simp only [Act.put, List.setIfInBounds_toArray, List.set_cons_zero, List.set_cons_succ, i64_w, i32_w]
                  rfl
                refine pure_ (i := 9) (N := some 26) (v := ?_) (a' := ?_) #[true, true, true, true, true, true, true, true, true, true] rfl rfl (any_of HT_.out (by kernel_rfl)) (fun _ _ _ h => h) (Or.inl ⟨by rfl, ?_⟩) ?_ ?_
                rotate_left
                · intro w'
                  go_simp
                  with_reducible rfl
                rotate_left
                · simp only [Act.put, List.setIfInBounds_toArray, List.set_cons_zero, List.set_cons_succ, i64_w, i32_w]
                  rfl
                refine done_ (done_of HT_.out (by kernel_rfl)) ?_
                try go_wp2
                go_ret
                exact ⟨by first | rfl | (simp [errW_none, errW_some] <;> rfl) | (simp [*, errW_none, errW_some] <;> rfl), by repeat (first | (with_reducible first | exact HB.out | apply below_alloc | apply pw_below_drewN | apply below_drew1) | exact HB.out)⟩
            · rw [if_neg c6] at H
              exact absurd H (by simp)
          · rw [if_neg c5] at H
            exact absurd H (by simp)
        · rw [if_neg c4] at H
          have c4b0 : decide (x5_1 < (l0.length : Int)) = false := decide_eq_false c4
          clear c4
          obtain rfl := Option.some.inj H
          go_wp2
          go_ret
          exact ⟨by first | rfl | (simp [errW_none, errW_some] <;> rfl) | (simp [*, errW_none, errW_some] <;> rfl), by repeat (first | (with_reducible first | exact HB.out | apply below_alloc | apply pw_below_drewN | apply below_drew1) | exact HB.out)⟩
  · rw [if_neg c3] at H
    have c3b0 : ((l0.length : Int) == (l1.length : Int)) = false := beq_eq_false_iff_ne.mpr c3
    have c3b1 : ((l0.length : Int) != (l1.length : Int)) = true := bne_iff_ne.mpr c3
    have c3b2 : (l0.length == l1.length) = false := by first | simpa using c3 | (simp at c3 ⊢; omega)
    obtain rfl := Option.some.inj H
    go_enter Try.func37, Try.ntmps37
    go_wp2
    go_ret
    exact ⟨by first | rfl | (simp [errW_none, errW_some] <;> rfl) | (simp [*, errW_none, errW_some] <;> rfl), by repeat (first | (with_reducible first | exact HB.out | apply below_alloc | apply pw_below_drewN | apply below_drew1) | exact HB.out)⟩

/-! ### laws_eqPath: function 11 -/
def laws_eqPath.f (k : Nat) (l0_0 : List (S54)) (l1_0 : List (S54)) : Option (Bool) := (laws_eqPNodeS.f k l0_0 l1_0).bind fun t178 => (if t178 = true then (some true) else (some false))
theorem laws_eqPath.mono : ∀ a0 a1 k, LeO (laws_eqPath.f k a0 a1) (laws_eqPath.f (k + 1) a0 a1) := by
  intro a0 a1 k
  unfold laws_eqPath.f
  repeat' first
      | (with_reducible exact laws_eqPNodeS.mono _ _ _)
      | (with_reducible exact LeO.refl _)
      | (with_reducible exact LeO.none _)
      | (with_reducible refine LeO.ite ?_ ?_)
      | (with_reducible refine LeO.bind ?_ (fun _ => ?_))
      | exact laws_eqPNodeS.mono _ _ _
      | exact LeO.none _
      | refine LeO.ite ?_ ?_
      | refine LeO.bind ?_ (fun _ => ?_)
set_option maxHeartbeats 8000000 in
set_option maxRecDepth 100000 in
theorem laws_eqPath.calls (k : Nat) (A0_0 : Option Addr) (c0_0 : Nat) (l0_0 : List (S54)) (A1_0 : Option Addr) (c1_0 : Nat) (l1_0 : List (S54)) (r : Bool) (w : World) (hr0_0 : Kd.C k54 w A0_0 l0_0.length l0_0) (hc0_0 : l0_0.length ≤ c0_0) (hr1_0 : Kd.C k54 w A1_0 l1_0.length l1_0) (hc1_0 : l1_0.length ≤ c1_0) (h : laws_eqPath.f k l0_0 l1_0 = some r) :
    Calls Try.prog 11 #[.agg #[.slice A0_0 l0_0.length c0_0], .agg #[.slice A1_0 l1_0.length c1_0]] w fun e w' => e = .returned (.bool r) ∧ Below w.heap.size w w' := by
  have hu29 := Try.underlying29
  have HR0_0 := Aside0.mk hr0_0
  have HC0_0 := Aside0.mk hc0_0
  clear hr0_0 hc0_0
  have HR1_0 := Aside0.mk hr1_0
  have HC1_0 := Aside0.mk hc1_0
  clear hr1_0 hc1_0
  have HB := Aside0.mk (Below.refl w.heap.size w)
  have H : ((laws_eqPNodeS.f k l0_0 l1_0).bind fun t178 => (if t178 = true then (some true) else (some false))) = some r := h
  clear h
  replace H := Option.bind_eq_some_iff.mp H
  obtain ⟨t178, A30, H⟩ := H
  replace H : (if t178 = true then (some true) else (some false)) = some r := H
  have A3 := Aside0.mk A30
  clear A30
  by_cases c4 : t178 = true
  · subst c4
    have H1 : (some true) = some r := by rw [if_pos rfl] at H; exact H
    clear H
    have H := H1
    clear H1
    obtain rfl := Option.some.inj H
    go_enter Try.func11, Try.ntmps11
    go_wp2_with (first | ((with_reducible refine gate_dst (N := 2) rfl ?_); refine box_event ?hg (N := 2) ?hd (cs := #[.slice A0_0 l0_0.length c0_0]) (t := 29) ?hr ?_; (case hd => rfl); (case hg => rfl); (case hr => first | (go_simp; done) | (go_simp; rfl)); intro gb176 hg w5 hbox hb; have n0_ := Aside0.mk (below_step (by repeat (first | (with_reducible first | exact HB.out | apply below_alloc | apply pw_below_drewN | apply below_drew1) | exact HB.out)) hb); have n1_ := Aside0.mk (hbox); have n2_ := Aside0.mk ((by rw [hg]; exact (below_size (by repeat (first | (with_reducible first | exact HB.out | apply below_alloc | apply pw_below_drewN | apply below_drew1) | exact HB.out))) : w.heap.size ≤ gb176)); have n3_ := Aside0.mk ((by rw [hg]; exact (below_size (by repeat (first | (with_reducible first | exact HB.out | apply below_alloc | apply pw_below_drewN | apply below_drew1) | exact HB.out))) : w.heap.size ≤ gb176)); clear HB; have HB := n0_; have BK176 := n1_; have GW176 := n2_; have GE176 := n3_; clear n0_ n1_ n2_ n3_; clear hb hbox hg) | ((with_reducible refine gate_dst (N := 3) rfl ?_); refine box_event ?hg (N := 3) ?hd (cs := #[.slice A1_0 l1_0.length c1_0]) (t := 29) ?hr ?_; (case hd => rfl); (case hg => rfl); (case hr => first | (go_simp; done) | (go_simp; rfl)); intro gb177 hg w6 hbox hb; have n0_ := Aside0.mk (blk_below (g := gb176) (o := .cells #[.slice A0_0 l0_0.length c0_0] 29 (0, 0)) (by (with_reducible repeat (first | refine blk_drewN ?_ _ | refine blk_drew ?_ | refine blk_alloc ?_ _)); exact BK176.out) hb); have n1_ := Aside0.mk (below_step (by repeat (first | (with_reducible first | exact HB.out | apply below_alloc | apply pw_below_drewN | apply below_drew1 | refine below_set ?_ GE176.out) | exact HB.out)) hb); have n2_ := Aside0.mk (hbox); have n3_ := Aside0.mk ((by rw [hg]; exact (below_size (by repeat (first | (with_reducible first | exact HB.out | apply below_alloc | apply pw_below_drewN | apply below_drew1 | refine below_set ?_ GE176.out) | exact HB.out))) : w.heap.size ≤ gb177)); have n4_ := Aside0.mk ((by rw [hg]; exact (below_size (by repeat (first | (with_reducible first | exact HB.out | apply below_alloc | apply pw_below_drewN | apply below_drew1 | refine below_set ?_ GE176.out) | exact HB.out))) : w.heap.size ≤ gb177)); have n5_ := Aside0.mk ((by rw [hg]; exact Nat.ne_of_lt (blk_lt (g := gb176) (o := .cells #[.slice A0_0 l0_0.length c0_0] 29 (0, 0)) (by (with_reducible repeat (first | refine blk_drewN ?_ _ | refine blk_drew ?_ | refine blk_alloc ?_ _)); exact BK176.out)) : gb176 ≠ gb177)); have n6_ := Aside0.mk ((by rw [hg]; exact Nat.ne_of_gt (blk_lt (g := gb176) (o := .cells #[.slice A0_0 l0_0.length c0_0] 29 (0, 0)) (by (with_reducible repeat (first | refine blk_drewN ?_ _ | refine blk_drew ?_ | refine blk_alloc ?_ _)); exact BK176.out)) : gb177 ≠ gb176)); clear BK176; clear HB; have BK176 := n0_; have HB := n1_; have BK177 := n2_; have GW177 := n3_; have GE177 := n4_; have NB176_177 := n5_; have NB177_176 := n6_; clear n0_ n1_ n2_ n3_ n4_ n5_ n6_; clear hb hbox hg; have hnb7 := NB176_177.out; have hnc7 := NB177_176.out; have hcz8_0 : w6.cell? ⟨gb176, 0, none⟩ = some (.slice A0_0 l0_0.length c0_0) := (blk_cell BK176.out 0).trans rfl; have hfz8_0 := blk_frozen BK176.out 0; have hcz9_0 : w6.cell? ⟨gb177, 0, none⟩ = some (.slice A1_0 l1_0.length c1_0) := (blk_cell BK177.out 0).trans rfl; have hfz9_0 := blk_frozen BK177.out 0) | ((with_reducible refine gate_callee (f := 37) rfl ?_); refine goesL_ (some 9) rfl rfl Try.func37 (by kernel_rfl) rfl #[.slice A0_0 l0_0.length c0_0, .slice A1_0 l1_0.length c1_0] rfl (by (try simp only [List.map_toArray, List.map_cons, List.map_nil]); first | done | rfl | (simp only [List.length_drop, List.length_take]; rfl)) ?_; (with_reducible refine (laws_eqPNodeS.calls k _ _ l0_0 _ _ l1_0 true _ ?side1 ?side2 ?side3 ?side4 A3.out).mono ?_); (case side1 => repeat (first | exact (Kd.C_below HR0_0.out HB.out) | (with_reducible refine Kd.C_alloc ?_ _) | (with_reducible refine Kd.C_drewN ?_ _) | (with_reducible refine Kd.C_drew ?_))); (case side2 => exact HC0_0.out); (case side3 => repeat (first | exact (Kd.C_below HR1_0.out HB.out) | (with_reducible refine Kd.C_alloc ?_ _) | (with_reducible refine Kd.C_drewN ?_ _) | (with_reducible refine Kd.C_drew ?_))); (case side4 => exact HC1_0.out); rintro e w10 ⟨rfl, hb⟩; refine ⟨_, rfl, ?_⟩; have n0_ := Aside0.mk (blk_below (g := gb176) (o := .cells #[.slice A0_0 l0_0.length c0_0] 29 (0, 0)) (by (with_reducible repeat (first | refine blk_drewN ?_ _ | refine blk_drew ?_ | refine blk_alloc ?_ _)); exact BK176.out) hb); have n1_ := Aside0.mk (blk_below (g := gb177) (o := .cells #[.slice A1_0 l1_0.length c1_0] 29 (0, 0)) (by (with_reducible repeat (first | refine blk_drewN ?_ _ | refine blk_drew ?_ | refine blk_alloc ?_ _)); exact BK177.out) hb); have n2_ := Aside0.mk (below_step (by repeat (first | (with_reducible first | exact HB.out | apply below_alloc | apply pw_below_drewN | apply below_drew1 | refine below_set ?_ GE176.out | refine below_set ?_ GE177.out) | exact HB.out)) hb); clear BK176; clear BK177; clear HB; have BK176 := n0_; have BK177 := n1_; have HB := n2_; clear n0_ n1_ n2_; (try clear hb); (try clear hb2); (try clear hk); (try clear hi)))
    go_ret
    exact ⟨by first | rfl | (simp [errW_none, errW_some] <;> rfl) | (simp [*, errW_none, errW_some] <;> rfl), by repeat (first | (with_reducible first | exact HB.out | apply below_alloc | apply pw_below_drewN | apply below_drew1 | refine below_set ?_ GE176.out | refine below_set ?_ GE177.out) | exact HB.out)⟩
  · replace c4 := Bool.eq_false_iff.mpr c4
    subst c4
    have H1 : (some false) = some r := by rw [if_neg (show ¬ (false = true) by decide)] at H; exact H
    clear H
    have H := H1
    clear H1
    obtain rfl := Option.some.inj H
    go_enter Try.func11, Try.ntmps11
    go_wp2_with (first | ((with_reducible refine gate_dst (N := 2) rfl ?_); refine box_event ?hg (N := 2) ?hd (cs := #[.slice A0_0 l0_0.length c0_0]) (t := 29) ?hr ?_; (case hd => rfl); (case hg => rfl); (case hr => first | (go_simp; done) | (go_simp; rfl)); intro gb176 hg w11 hbox hb; have n0_ := Aside0.mk (below_step (by repeat (first | (with_reducible first | exact HB.out | apply below_alloc | apply pw_below_drewN | apply below_drew1) | exact HB.out)) hb); have n1_ := Aside0.mk (hbox); have n2_ := Aside0.mk ((by rw [hg]; exact (below_size (by repeat (first | (with_reducible first | exact HB.out | apply below_alloc | apply pw_below_drewN | apply below_drew1) | exact HB.out))) : w.heap.size ≤ gb176)); have n3_ := Aside0.mk ((by rw [hg]; exact (below_size (by repeat (first | (with_reducible first | exact HB.out | apply below_alloc | apply pw_below_drewN | apply below_drew1) | exact HB.out))) : w.heap.size ≤ gb176)); clear HB; have HB := n0_; have BK176 := n1_; have GW176 := n2_; have GE176 := n3_; clear n0_ n1_ n2_ n3_; clear hb hbox hg) | ((with_reducible refine gate_dst (N := 3) rfl ?_); refine box_event ?hg (N := 3) ?hd (cs := #[.slice A1_0 l1_0.length c1_0]) (t := 29) ?hr ?_; (case hd => rfl); (case hg => rfl); (case hr => first | (go_simp; done) | (go_simp; rfl)); intro gb177 hg w12 hbox hb; have n0_ := Aside0.mk (blk_below (g := gb176) (o := .cells #[.slice A0_0 l0_0.length c0_0] 29 (0, 0)) (by (with_reducible repeat (first | refine blk_drewN ?_ _ | refine blk_drew ?_ | refine blk_alloc ?_ _)); exact BK176.out) hb); have n1_ := Aside0.mk (below_step (by repeat (first | (with_reducible first | exact HB.out | apply below_alloc | apply pw_below_drewN | apply below_drew1 | refine below_set ?_ GE176.out) | exact HB.out)) hb); have n2_ := Aside0.mk (hbox); have n3_ := Aside0.mk ((by rw [hg]; exact (below_size (by repeat (first | (with_reducible first | exact HB.out | apply below_alloc | apply pw_below_drewN | apply below_drew1 | refine below_set ?_ GE176.out) | exact HB.out))) : w.heap.size ≤ gb177)); have n4_ := Aside0.mk ((by rw [hg]; exact (below_size (by repeat (first | (with_reducible first | exact HB.out | apply below_alloc | apply pw_below_drewN | apply below_drew1 | refine below_set ?_ GE176.out) | exact HB.out))) : w.heap.size ≤ gb177)); have n5_ := Aside0.mk ((by rw [hg]; exact Nat.ne_of_lt (blk_lt (g := gb176) (o := .cells #[.slice A0_0 l0_0.length c0_0] 29 (0, 0)) (by (with_reducible repeat (first | refine blk_drewN ?_ _ | refine blk_drew ?_ | refine blk_alloc ?_ _)); exact BK176.out)) : gb176 ≠ gb177)); have n6_ := Aside0.mk ((by rw [hg]; exact Nat.ne_of_gt (blk_lt (g := gb176) (o := .cells #[.slice A0_0 l0_0.length c0_0] 29 (0, 0)) (by (with_reducible repeat (first | refine blk_drewN ?_ _ | refine blk_drew ?_ | refine blk_alloc ?_ _)); exact BK176.out)) : gb177 ≠ gb176)); clear BK176; clear HB; have BK176 := n0_; have HB := n1_; have BK177 := n2_; have GW177 := n3_; have GE177 := n4_; have NB176_177 := n5_; have NB177_176 := n6_; clear n0_ n1_ n2_ n3_ n4_ n5_ n6_; clear hb hbox hg; have hnb13 := NB176_177.out; have hnc13 := NB177_176.out; have hcz14_0 : w12.cell? ⟨gb176, 0, none⟩ = some (.slice A0_0 l0_0.length c0_0) := (blk_cell BK176.out 0).trans rfl; have hfz14_0 := blk_frozen BK176.out 0; have hcz15_0 : w12.cell? ⟨gb177, 0, none⟩ = some (.slice A1_0 l1_0.length c1_0) := (blk_cell BK177.out 0).trans rfl; have hfz15_0 := blk_frozen BK177.out 0) | ((with_reducible refine gate_callee (f := 37) rfl ?_); refine goesL_ (some 9) rfl rfl Try.func37 (by kernel_rfl) rfl #[.slice A0_0 l0_0.length c0_0, .slice A1_0 l1_0.length c1_0] rfl (by (try simp only [List.map_toArray, List.map_cons, List.map_nil]); first | done | rfl | (simp only [List.length_drop, List.length_take]; rfl)) ?_; (with_reducible refine (laws_eqPNodeS.calls k _ _ l0_0 _ _ l1_0 false _ ?side1 ?side2 ?side3 ?side4 A3.out).mono ?_); (case side1 => repeat (first | exact (Kd.C_below HR0_0.out HB.out) | (with_reducible refine Kd.C_alloc ?_ _) | (with_reducible refine Kd.C_drewN ?_ _) | (with_reducible refine Kd.C_drew ?_))); (case side2 => exact HC0_0.out); (case side3 => repeat (first | exact (Kd.C_below HR1_0.out HB.out) | (with_reducible refine Kd.C_alloc ?_ _) | (with_reducible refine Kd.C_drewN ?_ _) | (with_reducible refine Kd.C_drew ?_))); (case side4 => exact HC1_0.out); rintro e w16 ⟨rfl, hb⟩; refine ⟨_, rfl, ?_⟩; have n0_ := Aside0.mk (blk_below (g := gb176) (o := .cells #[.slice A0_0 l0_0.length c0_0] 29 (0, 0)) (by (with_reducible repeat (first | refine blk_drewN ?_ _ | refine blk_drew ?_ | refine blk_alloc ?_ _)); exact BK176.out) hb); have n1_ := Aside0.mk (blk_below (g := gb177) (o := .cells #[.slice A1_0 l1_0.length c1_0] 29 (0, 0)) (by (with_reducible repeat (first | refine blk_drewN ?_ _ | refine blk_drew ?_ | refine blk_alloc ?_ _)); exact BK177.out) hb); have n2_ := Aside0.mk (below_step (by repeat (first | (with_reducible first | exact HB.out | apply below_alloc | apply pw_below_drewN | apply below_drew1 | refine below_set ?_ GE176.out | refine below_set ?_ GE177.out) | exact HB.out)) hb); clear BK176; clear BK177; clear HB; have BK176 := n0_; have BK177 := n1_; have HB := n2_; clear n0_ n1_ n2_; (try clear hb); (try clear hb2); (try clear hk); (try clear hi)))
    go_ret
    exact ⟨by first | rfl | (simp [errW_none, errW_some] <;> rfl) | (simp [*, errW_none, errW_some] <;> rfl), by repeat (first | (with_reducible first | exact HB.out | apply below_alloc | apply pw_below_drewN | apply below_drew1 | refine below_set ?_ GE176.out | refine below_set ?_ GE177.out) | exact HB.out)⟩
end Go.Proofs.Ythlkacpeindjlaa.PV
