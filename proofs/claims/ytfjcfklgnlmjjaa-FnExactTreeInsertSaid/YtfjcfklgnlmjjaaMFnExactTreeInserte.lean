-- Made by this session's programs out of the translation and of its own texts.
import Derived.Test.YtfjcfklgnlmjjaaMFnExactTreeInsertd
namespace Go.Proofs.Ytfjcfklgnlmjjaa.PB
open Go.RowKit Go.Proofs.YtfjcfklgnlmjjaaW.PrintWords Go.Proofs.YtfjcfklgnlmjjaaW.PrintLast Go.Proofs.YtfjcfklgnlmjjaaW.PrintMore
attribute [local go_sem] max2_int min2_int max_two min_two max_three min_three max_four min_four   -- for this text's walks alone
set_option linter.unusedVariables false
set_option linter.unusedSimpArgs false

/-! ### L_tplain: a text by hand -/
-- plain: good trees by depth, their nodes in order, what l3Nest and (*reader).node answer
def goodD : Nat → Bool → S56 → Prop
 | 0, root, t => t.f0 = true ∧ t.f2 = [] ∧ t.f1.length ≤ 4 ∧ (root = true ∨ 2 ≤ t.f1.length)
 | d + 1, _, t => t.f0 = false ∧ t.f1 = [] ∧ 2 ≤ t.f2.length ∧ t.f2.length ≤ 4 ∧ ∀ k ∈ t.f2, goodD d false k
def flatL (f : S56 → Int → List S90) : List S56 → Int → List S90
 | [], _ => []
 | k :: ks, a => f k a ++ flatL f ks (a + ((f k a).length : Nat))
def noL (f : S56 → Int → List S90) : List S56 → Int → List Int
 | [], _ => []
 | k :: ks, a => a :: noL f ks (a + ((f k a).length : Nat))
def headK (d : Nat) (t : S56) : ByteArray := (keysD d t).getD 0 ByteArray.empty
def sepL (d : Nat) (ks : List S56) : List ByteArray := (ks.drop 1).map (headK d)
def flatD : Nat → S56 → Int → List S90
 | 0, t, _ => [⟨true, t.f1, [], (t.f1.length : Nat)⟩]
 | d + 1, t, a => ⟨false, sepL d t.f2, noL (flatD d) t.f2 (a + 1), ((keysD (d + 1) t).length : Nat)⟩ :: flatL (flatD d) t.f2 (a + 1)
theorem goodD_false {d : Nat} {r : Bool} {t : S56} (h : goodD d false t) : goodD d r t := by
 cases d with
 | zero => exact ⟨h.1, h.2.1, h.2.2.1, Or.inr (by simpa using h.2.2.2)⟩
 | succ d => exact h
theorem keysD_pos : ∀ {d : Nat} {t : S56}, goodD d false t → 0 < (keysD d t).length
 | 0, t, h => by
   have := h.2.2.2
   simp at this
   simp only [keysD]
   omega
 | d + 1, t, h => by
   obtain ⟨_, _, h2, _, hk⟩ := h
   rcases ht : t.f2 with _ | ⟨k, ks⟩
   ·rw [ht] at h2
    simp at h2
   ·have := keysD_pos (hk k (by rw [ht]; exact List.mem_cons_self))
    simp only [keysD, ht, yH, List.flatten_cons, List.length_append]
    omega
theorem headK_succ {d : Nat} {t : S56} {k : S56} {ks : List S56} (ht : t.f2 = k :: ks) (hk : goodD d false k) : headK (d + 1) t = headK d k := by
 have := keysD_pos hk
 unfold headK
 simp only [keysD, ht, yH, List.flatten_cons, List.getD_eq_getElem?_getD]
 rw [List.getElem?_append_left this]
theorem keysD_le : ∀ {d : Nat} {r : Bool} {t : S56}, goodD d r t → (keysD d t).length ≤ 4 ^ (d + 1)
 | 0, r, t, h => by
   have := h.2.2.1
   simp only [keysD]
   omega
 | d + 1, r, t, h => by
   obtain ⟨_, _, _, h3, hk⟩ := h
   have : ∀ ks : List S56, (∀ k ∈ ks, goodD d false k) → ((ks.map (keysD d)).flatten).length ≤ ks.length * 4 ^ (d + 1) := by
    intro ks
    induction ks with
    | nil => intro _; simp
    | cons k ks ih =>
      intro hk
      have h1 := keysD_le (hk k List.mem_cons_self)
      have h2 := ih (fun x hx => hk x (List.mem_cons_of_mem _ hx))
      simp only [yH, List.flatten_cons, List.length_append, List.length_cons, Nat.add_mul, Nat.one_mul] at h2 ⊢
      omega
   have := this _ hk
   simp only [keysD]
   have h4 : t.f2.length * 4 ^ (d + 1) ≤ 4 * 4 ^ (d + 1) := Nat.mul_le_mul_right _ h3
   rw [Nat.pow_succ]
   omega
theorem flatL_snoc (f : S56 → Int → List S90) : ∀ (ks : List S56) (k : S56) (a : Int), flatL f (ks ++ [k]) a = flatL f ks a ++ f k (a + ((flatL f ks a).length : Nat))
 | [], k, a => by simp [flatL]
 | x :: xs, k, a => by
   simp only [List.cons_append, flatL, flatL_snoc f xs k, List.append_assoc, List.length_append, Int.natCast_add, Int.add_assoc]
theorem noL_snoc (f : S56 → Int → List S90) : ∀ (ks : List S56) (k : S56) (a : Int), noL f (ks ++ [k]) a = noL f ks a ++ [a + ((flatL f ks a).length : Nat)]
 | [], k, a => by simp [flatL, noL]
 | x :: xs, k, a => by
   simp only [List.cons_append, flatL, noL, noL_snoc f xs k, List.length_append, Int.natCast_add, Int.add_assoc]
theorem noL_length (f : S56 → Int → List S90) : ∀ (ks : List S56) (a : Int), (noL f ks a).length = ks.length
 | [], a => rfl
 | x :: xs, a => by simp [noL, noL_length f xs]
theorem sepL_snoc (d : Nat) (ks : List S56) (k : S56) : sepL d (ks ++ [k]) = if ks.length = 0 then [] else sepL d ks ++ [headK d k] := by
 cases ks with
 | nil => simp [sepL]
 | cons x xs => simp [sepL]
/-- How many nodes: at least 2 to the depth, at most 2 * 4 ^ depth. -/
theorem flatD_two : ∀ {d : Nat} {r : Bool} {t : S56} (a : Int), goodD d r t → 2 ^ d ≤ (flatD d t a).length
 | 0, r, t, a, h => by simp [flatD]
 | d + 1, r, t, a, h => by
   obtain ⟨_, _, h2, _, hk⟩ := h
   match ht : t.f2, h2 with
   | x :: y :: ks, _ =>
     have h1 := flatD_two (a + 1) (hk x (by rw [ht]; simp))
     have h3 := flatD_two (a + 1 + ((flatD d x (a + 1)).length : Nat)) (hk y (by rw [ht]; simp))
     simp only [flatD, ht, flatL, List.length_cons, List.length_append, Nat.pow_succ]
     omega
theorem flatD_pos (d : Nat) (t : S56) (a : Int) : 0 < (flatD d t a).length := by
 cases d <;> simp [flatD]
/-- A piece of the nodes from a on. -/
def Seg (ns : List S90) (a : Nat) (l : List S90) : Prop := ∃ r, ns.drop a = l ++ r
theorem Seg.left {ns : List S90} {a : Nat} {l m : List S90} (h : Seg ns a (l ++ m)) : Seg ns a l := by
 obtain ⟨r, h⟩ := h
 exact ⟨m ++ r, by rw [h, List.append_assoc]⟩
theorem Seg.right {ns : List S90} {a : Nat} {l m : List S90} (h : Seg ns a (l ++ m)) : Seg ns (a + l.length) m := by
 obtain ⟨r, h⟩ := h
 refine ⟨r, ?_⟩
 rw [← List.drop_drop, h, List.append_assoc, List.drop_left]
theorem Seg.join {ns : List S90} {a : Nat} {l m : List S90} (h : Seg ns a l) (h2 : Seg ns (a + l.length) m) : Seg ns a (l ++ m) := by
 obtain ⟨r, h⟩ := h
 obtain ⟨s, h2⟩ := h2
 refine ⟨s, ?_⟩
 rw [← List.drop_drop, h, List.drop_left] at h2
 rw [h, h2, List.append_assoc]
theorem Seg.le {ns : List S90} {a : Nat} {l : List S90} (h : Seg ns a l) (hp : 0 < l.length) : a + l.length ≤ ns.length := by
 obtain ⟨r, h⟩ := h
 have := congrArg List.length h
 simp only [zX, List.length_append] at this
 omega
theorem Seg.rd {ns : List S90} {a : Nat} {x : S90} {l : List S90} (h : Seg ns a (x :: l)) : rd_T90 ns (a : Int) = x ∧ a < ns.length := by
 have hl := h.le (by simp)
 obtain ⟨r, h⟩ := h
 have h2 := congrArg (fun l => l[0]?) h
 simp only [List.getElem?_drop, Nat.add_zero, List.cons_append, List.getElem?_cons_zero] at h2
 refine ⟨?_, by simp at hl; omega⟩
 unfold rd_T90
 simp [List.getD_eq_getElem?_getD, h2]
theorem Seg.one {ns : List S90} {a : Nat} (h : a < ns.length) : Seg ns a [rd_T90 ns (a : Int)] := by
 refine ⟨ns.drop (a + 1), ?_⟩
 rw [List.drop_eq_getElem_cons h]
 unfold rd_T90
 simp [List.getD_eq_getElem?_getD, h]
/-- Where a tree's nodes lie, l3Nest finds it. -/
theorem nestD_of (ns : List S90) : ∀ (d : Nat) (r : Bool) (t : S56) (a fuel : Nat), goodD d r t → d < fuel → Seg ns a (flatD d t (a : Int)) → nestD ns fuel (a : Int) = (t, ((a + (flatD d t (a : Int)).length : Nat) : Int), true)
 | 0, r, t, a, f + 1, hg, hf, hs => by
   obtain ⟨e, hl⟩ := hs.rd
   obtain ⟨g1, g2, _, _⟩ := hg
   unfold nestD
   rw [if_pos ⟨by omega, by omega⟩, e]
   cases t
   simp_all [flatD]
 | d + 1, r, t, a, f + 1, hg, hf, hs => by
   obtain ⟨g1, g2, g3, g4, hk⟩ := hg
   have hs0 := hs
   simp only [flatD] at hs
   obtain ⟨e, hl⟩ := hs.rd
   have hs2 : Seg ns (a + 1) (flatL (flatD d) t.f2 (a + 1 : Int)) := Seg.right (l := [_]) hs
   unfold nestD
   rw [if_pos ⟨by omega, by omega⟩, e]
   simp only [Bool.false_eq_true, if_false, noL_length]
   have key : ∀ (ks acc : List S56) (b : Nat) (B : Bool), (∀ k ∈ ks, goodD d false k) → Seg ns b (flatL (flatD d) ks (b : Int)) → nestL (nestD ns f) B (noL (flatD d) ks (b : Int)) (b : Int) acc = (⟨false, [], acc ++ ks⟩, ((b + (flatL (flatD d) ks (b : Int)).length : Nat) : Int), B) := by
    intro ks
    induction ks with
    | nil => intro acc b B _ _; simp [noL, nestL, flatL]
    | cons k ks ih =>
      intro acc b B hk hs
      simp only [flatL] at hs
      have h1 := nestD_of ns d false k b f (hk k List.mem_cons_self) (by omega) hs.left
      have h2 := ih (acc ++ [k]) (b + (flatD d k (b : Int)).length) B (fun x hx => hk x (List.mem_cons_of_mem _ hx)) (by have := hs.right; simpa using this)
      simp only [noL, nestL, if_true, h1]
      simp only [Int.natCast_add] at h2 ⊢
      rw [h2]
      simp only [List.append_assoc, List.cons_append, List.nil_append, flatL, List.length_append, Int.natCast_add, Int.add_assoc]
   have := key t.f2 [] (a + 1) (decide (0 < t.f2.length)) hk (by simpa using hs2)
   simp only [Int.natCast_add, Int.natCast_one] at this
   rw [this]
   cases t
   simp_all [flatD, Int.add_assoc, Int.add_comm]
   omega
/-- What (*reader).node answers. -/
def readL (rec : Int → Option (S56 × Nat × Int)) (seps : List ByteArray) : List Int → Nat → Nat → Int → List S56 → Option (List S56 × Nat × Int)
 | [], _, level, next, acc => some (acc, level, next)
 | k :: ks, i, level, next, acc => if k = next then (match rec next with
    | none => none
    | some (x, below, after) => if 0 < i ∧ (below ≠ level ∨ headK below x ≠ seps.getD (i - 1) ByteArray.empty) then none else readL rec seps ks (i + 1) below after (acc ++ [x])) else none
def readD (ns : List S90) : Nat → Bool → Int → Option (S56 × Nat × Int)
 | 0, _, _ => none
 | f + 1, root, next => if next < (ns.length : Int) then
    (if (rd_T90 ns next).f0 = true then (if (rd_T90 ns next).f2.length = 0 ∧ (rd_T90 ns next).f1.length ≤ 4 ∧ (rd_T90 ns next).f3 = ((rd_T90 ns next).f1.length : Nat) ∧ (root = true ∨ 2 ≤ (rd_T90 ns next).f1.length) then some (⟨true, (rd_T90 ns next).f1, []⟩, 0, next + 1) else none)
    else (if 2 ≤ (rd_T90 ns next).f2.length ∧ (rd_T90 ns next).f2.length ≤ 4 ∧ (rd_T90 ns next).f1.length + 1 = (rd_T90 ns next).f2.length then
      (match readL (readD ns f false) (rd_T90 ns next).f1 (rd_T90 ns next).f2 0 0 (next + 1) [] with
      | none => none
      | some (xs, level, after) => if (((xs.map (keysD level)).flatten.length : Nat) : Int) = (rd_T90 ns next).f3 then some (⟨false, [], xs⟩, level + 1, after) else none) else none))
    else none
theorem readL_sound {ns : List S90} {f : Nat} (hrec : ∀ (a : Nat) x d after, readD ns f false (a : Int) = some (x, d, after) → goodD d false x ∧ Seg ns a (flatD d x (a : Int)) ∧ after = ((a + (flatD d x (a : Int)).length : Nat) : Int)) (seps : List ByteArray) :
   ∀ (ks : List Int) (i level : Nat) (b : Nat) (acc xs : List S56) (lv : Nat) (after : Int), (∀ j x, 0 < j → acc[j]? = some x → seps[j-1]? = some (headK level x)) → acc.length = i → (∀ x ∈ acc, goodD level false x) → (i + ks.length ≤ seps.length + 1) →
    readL (readD ns f false) seps ks i level (b : Int) acc = some (xs, lv, after) →
    (∃ ys, xs = acc ++ ys ∧ ys.length = ks.length ∧ (0 < ks.length ∨ level = lv) ∧ (0 < i → level = lv) ∧ (∀ x ∈ ys, goodD lv false x) ∧ Seg ns b (flatL (flatD lv) ys (b : Int)) ∧ ks = noL (flatD lv) ys (b : Int) ∧ after = ((b + (flatL (flatD lv) ys (b : Int)).length : Nat) : Int)) ∧ (∀ j x, 0 < j → xs[j]? = some x → seps[j-1]? = some (headK lv x)) := by
 intro ks
 induction ks with
 | nil =>
   intro i level b acc xs lv after hsep hi hacc hle h
   simp only [readL, Option.some.injEq, Prod.mk.injEq] at h
   obtain ⟨rfl, rfl, rfl⟩ := h
   exact ⟨⟨[], by simp, rfl, Or.inr rfl, fun _ => rfl, by simp, ⟨ns.drop b, by simp [flatL]⟩, by simp [noL], by simp [flatL]⟩, hsep⟩
 | cons k ks ih =>
   intro i level b acc xs lv after hsep hi hacc hle h
   unfold readL at h
   by_cases hk : k = (b : Int)
   ·rw [if_pos hk] at h
    rcases hr : readD ns f false (b : Int) with _ | ⟨x, below, aft⟩
    · rw [hr] at h; cases h
    · rw [hr] at h
      obtain ⟨g1, g2, g3⟩ := hrec b x below aft hr
      simp only at h
      by_cases hc : 0 < i ∧ (below ≠ level ∨ headK below x ≠ seps.getD (i - 1) ByteArray.empty)
      ·rw [if_pos hc] at h; cases h
      ·rw [if_neg hc] at h
       have hlv : 0 < i → below = level := fun hi0 => Decidable.byContradiction fun hne => hc ⟨hi0, Or.inl hne⟩
       have hhd : 0 < i → headK below x = seps.getD (i - 1) ByteArray.empty := fun hi0 => Decidable.byContradiction fun hne => hc ⟨hi0, Or.inr hne⟩
       rw [g3] at h
       have h1 : ∀ j y, 0 < j → (acc ++ [x])[j]? = some y → seps[j-1]? = some (headK below y) := by
        intro j y hj hy
        by_cases hjl : j < acc.length
        ·rw [List.getElem?_append_left hjl] at hy
         rw [hlv (by omega)]
         exact hsep j y hj hy
        ·have : j = acc.length := by
          have := (List.getElem?_eq_some_iff.1 hy).1
          simp at this
          omega
         subst this
         rw [List.getElem?_append_right (zY _), Nat.sub_self] at hy
         simp only [List.getElem?_cons_zero, Option.some.injEq] at hy
         subst hy
         rw [hhd (by omega), hi]
         simp only [List.length_cons] at hle
         rw [List.getD_eq_getElem?_getD, List.getElem?_eq_getElem (by omega)]
         rfl
       have h2 : ∀ y ∈ acc ++ [x], goodD below false y := by
        intro y hy
        rcases List.mem_append.1 hy with hy | hy
        ·have : 0 < i := by rw [← hi]; exact List.length_pos_of_mem hy
         rw [hlv this]
         exact hacc y hy
        ·rw [List.mem_singleton.1 hy]; exact g1
       obtain ⟨⟨ys, e1, e2, e3, e4, e5, e6, e7, e8⟩, e9⟩ := ih (i + 1) below (b + (flatD below x (b : Int)).length) (acc ++ [x]) xs lv after h1 (by simp [hi]) h2 (by simp only [List.length_cons] at hle; omega) h
       have e4' := e4 (by omega)
       subst e4'
       refine ⟨⟨x :: ys, by rw [e1]; simp, by simp [e2], Or.inl (by simp), fun h0 => (hlv h0).symm, ?_, ?_, ?_, ?_⟩, e9⟩
       ·intro y hy
        rcases List.mem_cons.1 hy with rfl | hy
        ·exact g1
        ·exact e5 y hy
       ·simp only [flatL]
        exact g2.join (by rw [← Int.natCast_add]; exact e6)
       ·simp only [noL]
        rw [hk, e7, Int.natCast_add]
       ·rw [e8]
        simp only [flatL, List.length_append, Int.natCast_add, Int.add_assoc]
   ·rw [if_neg hk] at h; cases h
theorem readD_sound {ns : List S90} : ∀ (f : Nat) (root : Bool) (a : Nat) (x : S56) (d : Nat) (after : Int), readD ns f root (a : Int) = some (x, d, after) → goodD d root x ∧ Seg ns a (flatD d x (a : Int)) ∧ after = ((a + (flatD d x (a : Int)).length : Nat) : Int)
 | 0, root, a, x, d, after, h => by cases h
 | f + 1, root, a, x, d, after, h => by
   unfold readD at h
   obtain ⟨nd, hnd⟩ : ∃ nd, nd = rd_T90 ns (a : Int) := ⟨_, rfl⟩
   rw [← hnd] at h
   by_cases h1 : (a : Int) < (ns.length : Int)
   ·rw [if_pos h1] at h
    have hone := Seg.one (ns := ns) (a := a) (by omega)
    rw [← hnd] at hone
    by_cases h2 : nd.f0 = true
    ·rw [if_pos h2] at h
     by_cases h3 : nd.f2.length = 0 ∧ nd.f1.length ≤ 4 ∧ nd.f3 = (nd.f1.length : Nat) ∧ (root = true ∨ 2 ≤ nd.f1.length)
     ·rw [if_pos h3] at h
      simp only [Option.some.injEq, Prod.mk.injEq] at h
      obtain ⟨rfl, rfl, rfl⟩ := h
      obtain ⟨a1, a2, a3, a4⟩ := h3
      refine ⟨⟨rfl, rfl, a2, a4⟩, ?_, by simp [flatD]⟩
      have : nd = ⟨true, nd.f1, [], (nd.f1.length : Nat)⟩ := by
       cases nd
       simp_all
      simp only [flatD]
      rw [← this]
      exact hone
     ·rw [if_neg h3] at h; cases h
    ·rw [if_neg h2] at h
     by_cases h3 : 2 ≤ nd.f2.length ∧ nd.f2.length ≤ 4 ∧ nd.f1.length + 1 = nd.f2.length
     ·rw [if_pos h3] at h
      rcases hl : readL (readD ns f false) nd.f1 nd.f2 0 0 ((a : Int) + 1) [] with _ | ⟨xs, level, aft⟩
      ·rw [hl] at h; cases h
      ·rw [hl] at h
       simp only at h
       by_cases h4 : (((xs.map (keysD level)).flatten.length : Nat) : Int) = nd.f3
       ·rw [if_pos h4] at h
        simp only [Option.some.injEq, Prod.mk.injEq] at h
        obtain ⟨rfl, rfl, rfl⟩ := h
        rw [show (a : Int) + 1 = ((a + 1 : Nat) : Int) by simp] at hl
        obtain ⟨⟨ys, e1, e2, e3, e4, e5, e6, e7, e8⟩, e9⟩ := readL_sound (fun b x d after => readD_sound f false b x d after) nd.f1 nd.f2 0 0 (a + 1) [] xs level aft (by simp) rfl (by simp) (by omega) hl
        simp only [List.nil_append] at e1
        subst e1
        refine ⟨⟨rfl, rfl, by simp only [e2]; omega, by simp only [e2]; omega, e5⟩, ?_, ?_⟩
        ·have : nd = ⟨false, sepL level xs, noL (flatD level) xs ((a : Int) + 1), ((keysD (level + 1) ⟨false, [], xs⟩).length : Nat)⟩ := by
          have q1 : nd.f1 = sepL level xs := by
           apply List.ext_getElem?
           intro j
           simp only [sepL, List.getElem?_map, List.getElem?_drop]
           rcases hx : xs[1 + j]? with _ | x
           ·have := List.getElem?_eq_none_iff.1 hx
            rw [List.getElem?_eq_none (by omega)]; rfl
           ·have := e9 (1 + j) x (by omega) hx
            rw [show 1 + j - 1 = j by omega] at this
            rw [this]; rfl
          have q2 : nd.f2 = noL (flatD level) xs ((a : Int) + 1) := by rw [e7]; simp
          have q3 : nd.f3 = ((keysD (level + 1) ⟨false, [], xs⟩).length : Nat) := by rw [← h4]; rfl
          have q4 : nd.f0 = false := by simpa using h2
          rw [← q1, ← q2, ← q3, ← q4]
         simp only [flatD]
         rw [← this]
         exact Seg.join (l := [nd]) hone (by simpa using e6)
        ·rw [e8]
         simp [flatD]
         omega
       ·rw [if_neg h4] at h; cases h
     ·rw [if_neg h3] at h; cases h
   ·rw [if_neg h1] at h; cases h
theorem readD_of (ns : List S90) : ∀ (d : Nat) (r : Bool) (t : S56) (a fuel : Nat), goodD d r t → d < fuel → Seg ns a (flatD d t (a : Int)) → readD ns fuel r (a : Int) = some (t, d, ((a + (flatD d t (a : Int)).length : Nat) : Int))
 | 0, r, t, a, f + 1, hg, hf, hs => by
   obtain ⟨e, hl⟩ := hs.rd
   obtain ⟨g1, g2, g3, g4⟩ := hg
   unfold readD
   rw [if_pos (by omega), e]
   cases t
   simp_all [flatD]
 | d + 1, r, t, a, f + 1, hg, hf, hs => by
   obtain ⟨g1, g2, g3, g4, hk⟩ := hg
   simp only [flatD] at hs
   obtain ⟨e, hl⟩ := hs.rd
   have hs2 : Seg ns (a + 1) (flatL (flatD d) t.f2 (a + 1 : Int)) := Seg.right (l := [_]) hs
   have hsl : (sepL d t.f2).length + 1 = t.f2.length := by simp [sepL]; omega
   unfold readD
   rw [if_pos (by omega), e]
   simp only [Bool.false_eq_true, if_false, noL_length]
   rw [if_pos ⟨g3, g4, hsl⟩]
   have key : ∀ (ks acc : List S56) (i b lv : Nat), acc ++ ks = t.f2 → acc.length = i → (0 < i → lv = d) → Seg ns b (flatL (flatD d) ks (b : Int)) → readL (readD ns f false) (sepL d t.f2) (noL (flatD d) ks (b : Int)) i lv (b : Int) acc = some (acc ++ ks, if 0 < ks.length then d else lv, ((b + (flatL (flatD d) ks (b : Int)).length : Nat) : Int)) := by
    intro ks
    induction ks with
    | nil => intro acc i b lv _ _ _ _; simp [noL, readL, flatL]
    | cons k ks ih =>
      intro acc i b lv ha hi hlv hs
      simp only [flatL] at hs
      have hkm : goodD d false k := hk k (by rw [← ha]; simp)
      have h1 := readD_of ns d false k b f hkm (by omega) hs.left
      have h2 := ih (acc ++ [k]) (i + 1) (b + (flatD d k (b : Int)).length) d (by rw [← ha]; simp) (by simp [hi]) (fun _ => rfl) (by have := hs.right; simpa using this)
      have hc : ¬ (0 < i ∧ (d ≠ lv ∨ headK d k ≠ (sepL d t.f2).getD (i - 1) ByteArray.empty)) := by
       rintro ⟨c1, c2 | c2⟩
       ·exact c2 (hlv c1).symm
       ·apply c2
        have : t.f2[i]? = some k := by rw [← ha, ← hi]; simp
        simp only [sepL, List.getD_eq_getElem?_getD, List.getElem?_map, List.getElem?_drop]
        rw [show 1 + (i - 1) = i by omega, this]
        rfl
      simp only [noL, readL, if_true, h1]
      rw [if_neg hc]
      simp only [Int.natCast_add] at h2 ⊢
      rw [h2]
      simp [flatL, Int.add_assoc]
   have := key t.f2 [] 0 (a + 1) 0 (by simp) rfl (by simp) (by simpa using hs2)
   simp only [Int.natCast_add, Int.natCast_one, List.nil_append] at this
   rw [this, if_pos (by omega)]
   simp only
   rw [show keysD (d + 1) t = (t.f2.map (keysD d)).flatten from rfl, if_pos rfl]
   cases t
   simp_all [flatD, Int.add_assoc, Int.add_comm]

/-! ### L_ukn: a text by hand -/
-- impl's nodes as elements of rows, by depth (an element is an interface holding a pointer)
def ifP (t b : Nat) : Value := .iface t (.pointer (some ⟨b, 0, none⟩))
theorem heap_at {w w1 : World} {b : Nat} {o : Obj} (hb : Below w.heap.size w w1) (h : w.heap[b]? = some o) : w1.heap[b]? = some o := (hb.block b (Array.getElem?_eq_some_iff.1 h).1).trans h
def LeafAt (w : World) (b : Nat) (A : Option Addr) (c : Nat) (t : S56) : Prop := t.f0 = true ∧ t.f2 = [] ∧ w.heap[b]? = some (.cells #[.int .i64 (t.f1.length : Nat), .slice A t.f1.length c] 93 (0, 0)) ∧ t.f1.length ≤ c
def InnerAt (d : Nat) (w : World) (b : Nat) (A : Option Addr) (c : Nat) (t : S56) : Prop := t.f0 = false ∧ t.f1 = [] ∧ w.heap[b]? = some (.cells #[.int .i64 ((keysD (d + 1) t).length : Nat), .slice A t.f2.length c] 87 (0, 0)) ∧ t.f2.length ≤ c
def kN0 : Kd S56 where
 sz := 1
 E := []
 K := fun w t cs => ∃ b A c, cs = [ifP 58 b] ∧ LeafAt w b A c t ∧ Kd.C Kd.string w A t.f1.length t.f1
 M := fun _ _ _ _ _ => False
 K_len := by rintro w x cs ⟨b, A, c, rfl, _⟩; rfl
 K_one := by rintro w x cs ⟨b, A, c, rfl, _⟩ u hu; rw [List.mem_singleton.1 hu]; rfl
 K_below := by rintro w w1 x cs hb ⟨b, A, c, rfl, h, hc⟩; exact ⟨b, A, c, rfl, ⟨h.1, h.2.1, heap_at hb h.2.2.1, h.2.2.2⟩, zQ hc hb⟩
 K_of_M := fun h => h.elim
 M_mono := fun _ h => h
 M_bound := fun h => h.elim
 M_move := fun _ h => h
 M_lower := fun _ h => h
def kNs (d : Nat) (k : Kd S56) : Kd S56 where
 sz := 1
 E := []
 K := fun w t cs => ∃ b A c, cs = [ifP 79 b] ∧ InnerAt d w b A c t ∧ Kd.C k w A t.f2.length t.f2
 M := fun _ _ _ _ _ => False
 K_len := by rintro w x cs ⟨b, A, c, rfl, _⟩; rfl
 K_one := by rintro w x cs ⟨b, A, c, rfl, _⟩ u hu; rw [List.mem_singleton.1 hu]; rfl
 K_below := by rintro w w1 x cs hb ⟨b, A, c, rfl, h, hc⟩; exact ⟨b, A, c, rfl, ⟨h.1, h.2.1, heap_at hb h.2.2.1, h.2.2.2⟩, zQ hc hb⟩
 K_of_M := fun h => h.elim
 M_mono := fun _ h => h
 M_bound := fun h => h.elim
 M_move := fun _ h => h
 M_lower := fun _ h => h
def kN : Nat → Kd S56
 | 0 => kN0
 | d + 1 => kNs d (kN d)
theorem kN_sz (d : Nat) : (kN d).sz = 1 := by cases d <;> rfl
theorem ifP_inj {t b b' : Nat} (h : [ifP t b] = [ifP t b']) : b = b' := by
 unfold ifP at h
 simpa using h
theorem blk_ok {W : World} {ok : Nat → Prop} {b t : Nat} {v : Value} {vs : List Value} {P : World → Prop} (hf : Foot P W ok) (h : ∀ W', P W' → ∃ v vs, W'.heap[b]? = some (.cells ⟨v :: vs⟩ t (0, 0))) : ok b := by
 by_cases hk : ok b
 ·exact hk
 ·obtain ⟨W', _, h2, h3⟩ := Kd.emptied_at W b
  obtain ⟨v, vs, hc⟩ := h W' (hf W' (fun k hk' _ => h2 k (fun e => hk (e ▸ hk'))))
  have h4 := h3 ⟨b, 0, none⟩ rfl
  rw [blk_cell hc 0] at h4
  cases h4
theorem kN_open0 {W : World} {ok : Nat → Prop} {t : S56} {cs : List Value} (h : Kd.FK (kN 0) W ok t cs) : ∃ b A c, cs = [ifP 58 b] ∧ LeafAt W b A c t ∧ ok b ∧ Kd.F Kd.string W ok A t.f1.length t.f1 := by
 obtain ⟨b, A, c, rfl, hl, hc⟩ := Kd.FK_now h
 have hb : ok b := blk_ok (b := b) (t := 93) (v := .bool true) (vs := []) h (by
  rintro W' ⟨b', A', c', he, hl', _⟩
  rw [ifP_inj he]
  exact ⟨_, _, hl'.2.2.1⟩)
 refine ⟨b, A, c, rfl, hl, hb, fun W' hW => ?_⟩
 obtain ⟨b', A', c', he, hl', hc'⟩ := h W' hW
 have := ifP_inj he
 subst this
 have h1 := hl'.2.2.1
 rw [hW b hb (Array.getElem?_eq_some_iff.1 hl.2.2.1).1, hl.2.2.1] at h1
 simp at h1
 rw [h1.1]
 exact hc'
theorem kN_openS {d : Nat} {W : World} {ok : Nat → Prop} {t : S56} {cs : List Value} (h : Kd.FK (kN (d + 1)) W ok t cs) : ∃ b A c, cs = [ifP 79 b] ∧ InnerAt d W b A c t ∧ ok b ∧ Kd.F (kN d) W ok A t.f2.length t.f2 := by
 obtain ⟨b, A, c, rfl, hl, hc⟩ := Kd.FK_now h
 have hb : ok b := blk_ok (b := b) (t := 87) (v := .bool true) (vs := []) h (by
  rintro W' ⟨b', A', c', he, hl', _⟩
  rw [ifP_inj he]
  exact ⟨_, _, hl'.2.2.1⟩)
 refine ⟨b, A, c, rfl, hl, hb, fun W' hW => ?_⟩
 obtain ⟨b', A', c', he, hl', hc'⟩ := h W' hW
 have := ifP_inj he
 subst this
 have h1 := hl'.2.2.1
 rw [hW b hb (Array.getElem?_eq_some_iff.1 hl.2.2.1).1, hl.2.2.1] at h1
 simp at h1
 rw [h1.1]
 exact hc'
theorem kN_mk0 {W : World} {ok : Nat → Prop} {t : S56} {b : Nat} {A : Option Addr} {c : Nat} (hl : LeafAt W b A c t) (hb : ok b) (hF : Kd.F Kd.string W ok A t.f1.length t.f1) : Kd.FK (kN 0) W ok t [ifP 58 b] := fun W' hW =>
 ⟨b, A, c, rfl, ⟨hl.1, hl.2.1, (hW b hb (Array.getElem?_eq_some_iff.1 hl.2.2.1).1).trans hl.2.2.1, hl.2.2.2⟩, hF W' hW⟩
theorem kN_mkS {d : Nat} {W : World} {ok : Nat → Prop} {t : S56} {b : Nat} {A : Option Addr} {c : Nat} (hl : InnerAt d W b A c t) (hb : ok b) (hF : Kd.F (kN d) W ok A t.f2.length t.f2) : Kd.FK (kN (d + 1)) W ok t [ifP 79 b] := fun W' hW =>
 ⟨b, A, c, rfl, ⟨hl.1, hl.2.1, (hW b hb (Array.getElem?_eq_some_iff.1 hl.2.2.1).1).trans hl.2.2.1, hl.2.2.2⟩, hF W' hW⟩

/-! ### L_vsp: a text by hand -/
-- uses spec_l3Size.f
-- plain: what the printed spec functions answer at trees
theorem rd56_at (l : List S56) (i : Nat) (h : i < l.length) : rd_T56 l (i : Int) = l[i] := by
 unfold rd_T56
 simp [List.getD_eq_getElem?_getD, h]
theorem w64s (i : Nat) (h : i < 1048576 * 8) : wrap64 ((i : Int) + 1) = ((i + 1 : Nat) : Int) := by unfold wrap64; omega
theorem pow4 : ∀ n m : Nat, n ≤ m → 4 ^ n ≤ 4 ^ m := fun _ _ h => Nat.pow_le_pow_right (by decide) h
theorem keys_at : ∀ (d : Nat) (r : Bool) (t : S56) (k : Nat), goodD d r t → d ≤ 20 → 6 * d + 1 ≤ k → spec_l3Keys.f k t.f0 t.f1 t.f2 = some (keysD d t)
 | 0, r, t, k + 1, h, _, _ => by
   unfold spec_l3Keys.f
   rw [if_pos h.1]
   have := h.2.2.1
   simp only [Option.bind_some, List.nil_append, List.length_nil, keysD]
   rw [if_pos (by omega)]
 | d + 1, r, t, k + 1, h, hd, hk => by
   have hle := keysD_le h
   have h21 : 4 ^ (d + 1 + 1) ≤ 4 ^ 21 := pow4 _ _ (by omega)
   obtain ⟨h0, _, h2, h4, hks⟩ := h
   unfold spec_l3Keys.f
   rw [if_neg (by rw [h0]; decide)]
   have key : ∀ (m i k : Nat), i + m = t.f2.length → 6 * d + 1 + m + 1 ≤ k → spec_l3Keys.l0 k ((t.f2.take i).map (keysD d)).flatten (i : Int) t.f0 t.f1 t.f2 = some (keysD (d + 1) t) := by
    intro m
    induction m with
    | zero =>
      intro i k hi hk
      match k, hk with
      | k + 1, hk =>
        unfold spec_l3Keys.l0
        rw [if_neg (by omega), List.take_of_length_le (by omega)]
        rfl
    | succ m ih =>
      intro i k hi hk
      match k, hk with
      | k + 1, hk =>
        have hi2 : i < t.f2.length := by omega
        have h1 := keys_at d false t.f2[i] k (hks _ (List.getElem_mem hi2)) (by omega) (by omega)
        have h3 := ih (i + 1) k (by omega) (by omega)
        unfold spec_l3Keys.l0
        rw [if_pos (by omega), if_pos (by omega), rd56_at _ _ hi2, h1, w64s i (by omega)]
        simp only [Option.bind_some]
        have e : ((t.f2.take (i + 1)).map (keysD d)).flatten = ((t.f2.take i).map (keysD d)).flatten ++ keysD d t.f2[i] := by
         rw [List.take_add_one, List.getElem?_eq_getElem hi2, List.map_append, List.flatten_append]
         simp only [Option.toList_some, yH, List.map_nil, List.flatten_cons, List.flatten_nil, List.append_nil]
        rw [e] at h3
        have hl : ((t.f2.take (i + 1)).map (keysD d)).flatten.length ≤ (keysD (d + 1) t).length := by
         show _ ≤ ((t.f2.map (keysD d)).flatten).length
         conv => rhs; rw [← List.take_append_drop (i + 1) t.f2]
         simp only [List.map_append, List.flatten_append, List.length_append]
         omega
        rw [e, List.length_append] at hl
        rw [if_pos (by omega)]
        exact h3
   exact key t.f2.length 0 k (by omega) (by omega)
/-- What l3Depth answers. -/
def depM : Nat → Bool → S56 → Int
 | 0, _, _ => -1
 | n + 1, root, t => if 4 < (if t.f0 = true then t.f1.length else t.f2.length) ∨ ((if t.f0 = true then t.f1.length else t.f2.length) < 2 ∧ (root = false ∨ t.f0 = false)) then -1 else
    if t.f0 = true then 0 else if (∀ k ∈ t.f2, depM n false k = depM n false (rd_T56 t.f2 0)) ∧ 0 ≤ depM n false (rd_T56 t.f2 0) then depM n false (rd_T56 t.f2 0) + 1 else -1
/-- What l3Nest leaves where it is well. -/
def shapeN : Nat → S56 → Prop
 | 0, _ => False
 | n + 1, t => (t.f0 = true ∧ t.f2 = []) ∨ (t.f0 = false ∧ t.f1 = [] ∧ ∀ k ∈ t.f2, shapeN n k)
theorem rd56_mem {l : List S56} (h : 0 < l.length) : rd_T56 l 0 ∈ l := by
 have := rd56_at l 0 h
 rw [show ((0 : Nat) : Int) = 0 from rfl] at this
 rw [this]
 exact List.getElem_mem h
theorem depM_lt : ∀ (n : Nat) (r : Bool) (t : S56), -1 ≤ depM n r t ∧ depM n r t < n
 | 0, r, t => by simp [depM]
 | n + 1, r, t => by
   have := depM_lt n false (rd_T56 t.f2 0)
   unfold depM
   repeat' split
   all_goals omega
theorem depth_at : ∀ (n : Nat) (r : Bool) (t : S56) (k : Nat), shapeN n t → n ≤ 21 → 8 * n ≤ k → spec_l3Depth.f k t.f0 t.f1 t.f2 r = some (depM n r t)
 | n + 1, r, t, k + 2, h, hn, hk => by
   have hsz : spec_l3Size.f t.f0 t.f1 t.f2 = some (((if t.f0 = true then t.f1.length else t.f2.length : Nat)) : Int) := by
    unfold spec_l3Size.f
    split <;> rfl
   have jt : ∀ b : Bool, spec_l3Depth.j0 (k + 1) true t.f0 t.f1 t.f2 = some (-1) := fun _ => by unfold spec_l3Depth.j0; rw [if_pos rfl]
   obtain ⟨sz, hs⟩ : ∃ sz, sz = (if t.f0 = true then t.f1.length else t.f2.length) := ⟨_, rfl⟩
   rw [← hs] at hsz
   unfold spec_l3Depth.f
   rw [hsz]
   simp only [Option.bind_some]
   unfold depM
   rw [← hs]
   by_cases c1 : 4 < sz
   ·rw [if_pos (show (sz : Int) > 4 by omega), if_pos (Or.inl c1)]
    exact jt true
   ·rw [if_neg (show ¬ (sz : Int) > 4 by omega)]
    by_cases c2 : sz < 2 ∧ (r = false ∨ t.f0 = false)
    ·rw [if_pos (show 4 < sz ∨ (sz < 2 ∧ (r = false ∨ t.f0 = false)) from Or.inr c2), if_pos (show (sz : Int) < 2 by omega)]
     rcases c2.2 with rfl | h0
     ·rw [if_neg (by decide)]; exact jt true
     ·rw [h0]
      split
      ·have := jt true; rw [h0] at this; exact this
      ·have := jt true; rw [h0] at this; exact this
    ·rw [if_neg (show ¬ (4 < sz ∨ (sz < 2 ∧ (r = false ∨ t.f0 = false))) from fun h => h.elim (fun h => c1 h) (fun h => c2 h))]
     have e : (if (sz : Int) < 2 then (if r = true then spec_l3Depth.j0 (k + 1) (!t.f0) t.f0 t.f1 t.f2 else spec_l3Depth.j0 (k + 1) true t.f0 t.f1 t.f2) else spec_l3Depth.j0 (k + 1) false t.f0 t.f1 t.f2) = spec_l3Depth.j0 (k + 1) false t.f0 t.f1 t.f2 := by
      by_cases c3 : sz < 2
      ·rw [if_pos (by omega)]
       have h1 : r = true := by
        rcases r with _ | _
        · exact absurd ⟨c3, Or.inl rfl⟩ c2
        · rfl
       have h2 : t.f0 = true := by
        rcases h0 : t.f0 with _ | _
        · exact absurd ⟨c3, Or.inr h0⟩ c2
        · rfl
       rw [h1, h2]
       rfl
      ·rw [if_neg (by omega)]
     rw [e]
     unfold spec_l3Depth.j0
     rw [if_neg (by decide)]
     by_cases c3 : t.f0 = true
     ·rw [if_pos c3, if_pos c3]
     ·rw [if_neg c3, if_neg c3]
      rcases h with h | ⟨h0, h1, hks⟩
      ·exact absurd h.1 c3
      ·have hsl : sz = t.f2.length := by rw [hs, if_neg c3]
       have hl2 : 2 ≤ t.f2.length := by
        rcases Nat.lt_or_ge sz 2 with c4 | c4
        · exact absurd ⟨c4, Or.inr h0⟩ c2
        · omega
       rw [if_pos (by omega)]
       obtain ⟨v0, hv0⟩ : ∃ v0, v0 = depM n false (rd_T56 t.f2 0) := ⟨_, rfl⟩
       rw [depth_at n false _ k (hks _ (rd56_mem (by omega))) (by omega) (by omega), ← hv0]
       simp only [Option.bind_some]
       have hb := depM_lt n false (rd_T56 t.f2 0)
       rw [← hv0] at hb
       have key : ∀ (m i k : Nat), i + m = t.f2.length → 8 * n + m + 1 ≤ k → (∀ x ∈ t.f2.take i, depM n false x = v0) → spec_l3Depth.l0 k v0 (i : Int) t.f0 t.f1 t.f2 = some (if (∀ x ∈ t.f2, depM n false x = v0) ∧ 0 ≤ v0 then v0 + 1 else -1) := by
        intro m
        induction m with
        | zero =>
          intro i k hi hk ha
          match k, hk with
          | k + 1, hk =>
            rw [List.take_of_length_le (by omega)] at ha
            unfold spec_l3Depth.l0
            rw [if_neg (by omega)]
            by_cases c5 : v0 < 0
            ·rw [if_pos c5, if_neg (by omega)]
            ·rw [if_neg c5, if_pos ⟨ha, by omega⟩, show wrap64 (v0 + 1) = v0 + 1 by unfold wrap64; omega]
        | succ m ih =>
          intro i k hi hk ha
          match k, hk with
          | k + 1, hk =>
            have hi2 : i < t.f2.length := by omega
            unfold spec_l3Depth.l0
            rw [if_pos (by omega), if_pos (by omega), rd56_at _ _ hi2, depth_at n false _ k (hks _ (List.getElem_mem hi2)) (by omega) (by omega), w64s i (by omega)]
            simp only [Option.bind_some]
            by_cases c6 : depM n false t.f2[i] = v0
            ·rw [if_pos c6]
             refine ih (i + 1) k (by omega) (by omega) (fun x hx => ?_)
             rw [List.take_add_one, List.getElem?_eq_getElem hi2] at hx
             rcases List.mem_append.1 hx with hx | hx
             ·exact ha x hx
             ·simp at hx
              rw [hx]; exact c6
            ·rw [if_neg c6, if_neg (fun hh => c6 (hh.1 _ (List.getElem_mem hi2)))]
       exact key t.f2.length 0 k (by omega) (by omega) (by simp)
theorem depM_good : ∀ (n : Nat) (r : Bool) (t : S56), shapeN n t → 0 ≤ depM n r t → goodD (depM n r t).toNat r t
 | n + 1, r, t, h, hp => by
   unfold depM at hp ⊢
   obtain ⟨sz, hs⟩ : ∃ sz, sz = (if t.f0 = true then t.f1.length else t.f2.length) := ⟨_, rfl⟩
   rw [← hs] at hp ⊢
   by_cases c1 : 4 < sz ∨ (sz < 2 ∧ (r = false ∨ t.f0 = false))
   ·rw [if_pos c1] at hp; omega
   ·rw [if_neg c1] at hp ⊢
    by_cases c3 : t.f0 = true
    ·rw [if_pos c3]
     rw [if_pos c3] at hs
     refine ⟨c3, ?_, by omega, ?_⟩
     ·rcases h with h | h
      ·exact h.2
      ·rw [h.1] at c3; cases c3
     ·rcases r with _ | _
      ·right
       rcases Nat.lt_or_ge sz 2 with c | c
       ·exact absurd (Or.inr ⟨c, Or.inl rfl⟩) c1
       ·omega
      ·exact Or.inl rfl
    ·rw [if_neg c3] at hp ⊢
     rw [if_neg c3] at hs
     rcases h with h | ⟨h0, h1, hks⟩
     ·exact absurd h.1 c3
     ·by_cases c4 : (∀ k ∈ t.f2, depM n false k = depM n false (rd_T56 t.f2 0)) ∧ 0 ≤ depM n false (rd_T56 t.f2 0)
      ·rw [if_pos c4]
       have e : (depM n false (rd_T56 t.f2 0) + 1).toNat = (depM n false (rd_T56 t.f2 0)).toNat + 1 := by omega
       rw [e]
       refine ⟨h0, h1, ?_, by omega, fun k hk => ?_⟩
       ·rcases Nat.lt_or_ge sz 2 with c | c
        ·exact absurd (Or.inr ⟨c, Or.inr h0⟩) c1
        ·omega
       ·have := depM_good n false k (hks k hk) (by rw [c4.1 k hk]; exact c4.2)
        rw [c4.1 k hk] at this
        exact this
      ·rw [if_neg c4] at hp; omega
theorem depM_of : ∀ (d n : Nat) (r : Bool) (t : S56), goodD d r t → d < n → depM n r t = d
 | 0, n + 1, r, t, h, _ => by
   obtain ⟨h0, h1, h2, h3⟩ := h
   unfold depM
   simp only [h0, if_true]
   rw [if_neg]
   ·rfl
   ·rintro (h | ⟨h, h4 | h4⟩)
    ·omega
    ·rcases h3 with h3 | h3
     ·rw [h3] at h4; cases h4
     ·omega
    ·cases h4
 | d + 1, n + 1, r, t, h, hn => by
   obtain ⟨h0, h1, h2, h3, hk⟩ := h
   have e0 := depM_of d n false _ (hk _ (rd56_mem (by omega))) (by omega)
   unfold depM
   simp only [h0, Bool.false_eq_true, if_false]
   rw [if_neg (by omega), e0, if_pos ⟨fun k hk' => depM_of d n false k (hk k hk') (by omega), by omega⟩]
   simp
theorem shape_nest (ns : List S90) : ∀ (n : Nat) (i : Int), (nestD ns n i).2.2 = true → shapeN n (nestD ns n i).1
 | 0, i, h => by cases h
 | n + 1, i, h => by
   unfold nestD at h ⊢
   by_cases c1 : 0 ≤ i ∧ i < (ns.length : Int)
   ·rw [if_pos c1] at h ⊢
    by_cases c2 : (rd_T90 ns i).f0 = true
    ·rw [if_pos c2]
     exact Or.inl ⟨rfl, rfl⟩
    ·rw [if_neg c2] at h ⊢
     have key : ∀ (ks : List Int) (b : Bool) (next : Int) (acc : List S56), (∀ x ∈ acc, shapeN n x) → (nestL (nestD ns n) b ks next acc).2.2 = true → shapeN (n + 1) (nestL (nestD ns n) b ks next acc).1 := by
      intro ks
      induction ks with
      | nil => intro b next acc ha _; exact Or.inr ⟨rfl, rfl, ha⟩
      | cons k ks ih =>
        intro b next acc ha h
        unfold nestL at h ⊢
        by_cases c3 : k = next
        ·rw [if_pos c3] at h ⊢
         by_cases c4 : (nestD ns n next).2.2 = true
         ·rw [if_pos c4] at h ⊢
          refine ih b _ _ (fun x hx => ?_) h
          rcases List.mem_append.1 hx with hx | hx
          ·exact ha x hx
          ·rw [List.mem_singleton.1 hx]
           exact shape_nest ns n next c4
         ·rw [if_neg c4] at h; cases h
        ·rw [if_neg c3] at h; cases h
     exact key _ _ _ _ (by simp) h
   ·rw [if_neg c1] at h; cases h

/-! ### L_wsame: a text by hand -/
-- plain: l3SameNodes, what a valid tree is
theorem bs_inj {a b : ByteArray} (h : a.toList = b.toList) : a = b := by
 rw [ByteArray.toList_eq, ByteArray.toList_eq] at h
 cases a
 cases b
 simp only at h
 congr
 exact Array.toList_inj.1 h
theorem rdb_at (l : List ByteArray) (i : Nat) (h : i < l.length) : rdOf ByteArray.empty l (i : Int) = l[i] := by
 unfold rdOf
 simp [List.getD_eq_getElem?_getD, h]
theorem rdi_at (l : List Int) (i : Nat) (h : i < l.length) : rd l (i : Int) = l[i] := by
 unfold rd
 simp [List.getD_eq_getElem?_getD, h]
theorem rd90_at (l : List S90) (i : Nat) (h : i < l.length) : rd_T90 l (i : Int) = l[i] := by
 unfold rd_T90
 simp [List.getD_eq_getElem?_getD, h]
theorem w64m (i : Nat) (h : i < 9223372036854775807) : wrap64 ((i : Int) + 1) = ((i + 1 : Nat) : Int) := by unfold wrap64; omega
theorem drop_eq' {α : Type} {a b : List α} {i : Nat} (ha : i < a.length) (hb : i < b.length) : (a.drop i = b.drop i) ↔ (a[i] = b[i] ∧ a.drop (i + 1) = b.drop (i + 1)) := by
 rw [List.drop_eq_getElem_cons ha, List.drop_eq_getElem_cons hb, List.cons.injEq]
open Classical in
noncomputable def iteB (p : Prop) (r : Bool) : Bool := if p then r else false
theorem iteB_pos {p : Prop} {r : Bool} (h : p) : iteB p r = r := by unfold iteB; rw [if_pos h]
theorem iteB_neg {p : Prop} {r : Bool} (h : ¬ p) : iteB p r = false := by unfold iteB; rw [if_neg h]
theorem iteB_and {p q : Prop} {r : Bool} (h : p) : iteB (p ∧ q) r = iteB q r := by
 by_cases hq : q
 ·rw [iteB_pos ⟨h, hq⟩, iteB_pos hq]
 ·rw [iteB_neg (fun x => hq x.2), iteB_neg hq]
section
variable {x0 x1 : List S90}
theorem same2_ev {x5 : Nat} (h0 : x5 < x0.length) (h1 : x5 < x1.length) (hl : x0[x5].f2.length = x1[x5].f2.length) (hm : x0[x5].f2.length ≤ 9223372036854775807) {r : Bool} (hr : Ev (fun k => spec_l3SameNodes.l0 k x0 x1 (wrap64 ((x5 : Int) + 1))) r) :
   ∀ m i : Nat, i + m = x0[x5].f2.length → Ev (fun k => spec_l3SameNodes.l2 k x0 x1 (x5 : Int) (i : Int)) (iteB (x0[x5].f2.drop i = x1[x5].f2.drop i) r) := by
 intro m
 induction m with
 | zero =>
   intro i hi
   refine Ev.step (f := fun k => spec_l3SameNodes.l0 k x0 x1 (wrap64 ((x5 : Int) + 1))) (fun k => ?_) ?_
   ·show spec_l3SameNodes.l2 (k + 1) x0 x1 (x5 : Int) (i : Int) = _
    unfold spec_l3SameNodes.l2
    rw [if_pos (by omega), if_pos (by omega), rd90_at _ _ h0, if_neg (by omega)]
   ·rw [List.drop_of_length_le (by omega), List.drop_of_length_le (by omega), iteB_pos rfl]
    exact hr
 | succ m ih =>
   intro i hi
   have ha : i < x0[x5].f2.length := by omega
   have hb : i < x1[x5].f2.length := by omega
   by_cases c : x0[x5].f2[i] = x1[x5].f2[i]
   ·refine Ev.step (f := fun k => spec_l3SameNodes.l2 k x0 x1 (x5 : Int) ((i + 1 : Nat) : Int)) (fun k => ?_) ?_
    ·show spec_l3SameNodes.l2 (k + 1) x0 x1 (x5 : Int) (i : Int) = _
     rw [spec_l3SameNodes.l2]
     rw [if_pos (by omega), if_pos (by omega), rd90_at _ _ h0, rd90_at _ _ h1, if_pos (by omega), if_pos (by omega), if_pos (by omega), if_pos (by omega), rdi_at _ _ ha, rdi_at _ _ hb, if_pos c, w64m _ (by omega)]
    ·have := ih (i + 1) (by omega)
     rw [drop_eq' ha hb, iteB_and c]
     exact this
   ·refine Ev.step (f := fun _ => some false) (fun k => ?_) ?_
    ·show spec_l3SameNodes.l2 (k + 1) x0 x1 (x5 : Int) (i : Int) = _
     rw [spec_l3SameNodes.l2]
     rw [if_pos (by omega), if_pos (by omega), rd90_at _ _ h0, rd90_at _ _ h1, if_pos (by omega), if_pos (by omega), if_pos (by omega), if_pos (by omega), rdi_at _ _ ha, rdi_at _ _ hb, if_neg c]
    ·rw [iteB_neg (fun h => c ((drop_eq' ha hb).1 h).1)]
     exact Ev.now _
theorem same1_ev {x5 : Nat} (h0 : x5 < x0.length) (h1 : x5 < x1.length) (hl : x0[x5].f1.length = x1[x5].f1.length) (hm : x0[x5].f1.length ≤ 9223372036854775807) {r : Bool} (hr : Ev (fun k => spec_l3SameNodes.l2 k x0 x1 (x5 : Int) 0) r) :
   ∀ m i : Nat, i + m = x0[x5].f1.length → Ev (fun k => spec_l3SameNodes.l1 k x0 x1 (x5 : Int) (i : Int)) (iteB (x0[x5].f1.drop i = x1[x5].f1.drop i) r) := by
 intro m
 induction m with
 | zero =>
   intro i hi
   refine Ev.step (f := fun k => spec_l3SameNodes.l2 k x0 x1 (x5 : Int) 0) (fun k => ?_) ?_
   ·show spec_l3SameNodes.l1 (k + 1) x0 x1 (x5 : Int) (i : Int) = _
    rw [spec_l3SameNodes.l1]
    rw [if_pos (by omega), if_pos (by omega), rd90_at _ _ h0, if_neg (by omega)]
   ·rw [List.drop_of_length_le (by omega), List.drop_of_length_le (by omega), iteB_pos rfl]
    exact hr
 | succ m ih =>
   intro i hi
   have ha : i < x0[x5].f1.length := by omega
   have hb : i < x1[x5].f1.length := by omega
   by_cases c : x0[x5].f1[i] = x1[x5].f1[i]
   ·refine Ev.step (f := fun k => spec_l3SameNodes.l1 k x0 x1 (x5 : Int) ((i + 1 : Nat) : Int)) (fun k => ?_) ?_
    ·show spec_l3SameNodes.l1 (k + 1) x0 x1 (x5 : Int) (i : Int) = _
     rw [spec_l3SameNodes.l1]
     rw [if_pos (by omega), if_pos (by omega), rd90_at _ _ h0, rd90_at _ _ h1, if_pos (by omega), if_pos (by omega), if_pos (by omega), if_pos (by omega), rdb_at _ _ ha, rdb_at _ _ hb, if_pos (by rw [c]), w64m _ (by omega)]
    ·have := ih (i + 1) (by omega)
     rw [drop_eq' ha hb, iteB_and c]
     exact this
   ·refine Ev.step (f := fun _ => some false) (fun k => ?_) ?_
    ·show spec_l3SameNodes.l1 (k + 1) x0 x1 (x5 : Int) (i : Int) = _
     rw [spec_l3SameNodes.l1]
     rw [if_pos (by omega), if_pos (by omega), rd90_at _ _ h0, rd90_at _ _ h1, if_pos (by omega), if_pos (by omega), if_pos (by omega), if_pos (by omega), rdb_at _ _ ha, rdb_at _ _ hb, if_neg (fun h => c (bs_inj h))]
    ·rw [iteB_neg (fun h => c ((drop_eq' ha hb).1 h).1)]
     exact Ev.now _
theorem node_eq {a b : S90} : a = b ↔ a.f0 = b.f0 ∧ a.f3 = b.f3 ∧ a.f1 = b.f1 ∧ a.f2 = b.f2 := by
 cases a
 cases b
 simp only [S90.mk.injEq]
 constructor
 ·rintro ⟨h1, h2, h3, h4⟩; exact ⟨h1, h4, h2, h3⟩
 ·rintro ⟨h1, h4, h2, h3⟩; exact ⟨h1, h2, h3, h4⟩
theorem same0_ev (hl : x0.length = x1.length) (hm : x0.length ≤ 9223372036854775807) (hs : ∀ x ∈ x0, x.f1.length ≤ 9223372036854775807 ∧ x.f2.length ≤ 9223372036854775807) :
   ∀ m i : Nat, i + m = x0.length → Ev (fun k => spec_l3SameNodes.l0 k x0 x1 (i : Int)) (iteB (x0.drop i = x1.drop i) true) := by
 intro m
 induction m with
 | zero =>
   intro i hi
   refine Ev.step (f := fun _ => some true) (fun k => ?_) ?_
   ·show spec_l3SameNodes.l0 (k + 1) x0 x1 (i : Int) = _
    rw [spec_l3SameNodes.l0]
    rw [if_neg (by omega)]
   ·rw [List.drop_of_length_le (by omega), List.drop_of_length_le (by omega), iteB_pos rfl]
    exact Ev.now _
 | succ m ih =>
   intro i hi
   have h0 : i < x0.length := by omega
   have h1 : i < x1.length := by omega
   have hx := hs _ (List.getElem_mem h0)
   have hnext : Ev (fun k => spec_l3SameNodes.l0 k x0 x1 (wrap64 ((i : Int) + 1))) (iteB (x0.drop (i + 1) = x1.drop (i + 1)) true) := by
    rw [w64m _ (by omega)]
    exact ih (i + 1) (by omega)
   have hT : Ev (fun k => spec_l3SameNodes.j1 k x0 x1 (i : Int) true) false := by
    refine Ev.step (f := fun _ => some false) (fun k => ?_) (Ev.now _)
    show spec_l3SameNodes.j1 (k + 1) x0 x1 (i : Int) true = _
    rw [spec_l3SameNodes.j1, if_pos rfl]
   have hne : ∀ {p : Prop}, ¬ p → (x0[i] = x1[i] → p) → iteB (x0.drop i = x1.drop i) true = false := fun hp hi => iteB_neg (fun h => hp (hi ((drop_eq' h0 h1).1 h).1))
   have e0 : ∀ k, spec_l3SameNodes.l0 (k + 1) x0 x1 (i : Int) = (if (x0[i].f0 != x1[i].f0) = true then spec_l3SameNodes.j1 k x0 x1 (i : Int) true else (if x0[i].f3 = x1[i].f3 then (if (x0[i].f1.length : Int) = (x1[i].f1.length : Int) then spec_l3SameNodes.j1 k x0 x1 (i : Int) ((x0[i].f2.length : Int) != (x1[i].f2.length : Int)) else spec_l3SameNodes.j1 k x0 x1 (i : Int) true) else spec_l3SameNodes.j1 k x0 x1 (i : Int) true)) := by
    intro k
    rw [spec_l3SameNodes.l0]
    rw [if_pos (by omega), if_pos (by omega), if_pos (by omega), rd90_at _ _ h0, rd90_at _ _ h1]
   by_cases c1 : x0[i].f0 = x1[i].f0
   case neg =>
    rw [hne c1 (fun h => by rw [h])]
    exact Ev.step (f := fun k => spec_l3SameNodes.j1 k x0 x1 (i : Int) true) (fun k => by show spec_l3SameNodes.l0 (k + 1) x0 x1 (i : Int) = _; rw [e0, if_pos (by simpa using c1)]) hT
   by_cases c2 : x0[i].f3 = x1[i].f3
   case neg =>
    rw [hne c2 (fun h => by rw [h])]
    exact Ev.step (f := fun k => spec_l3SameNodes.j1 k x0 x1 (i : Int) true) (fun k => by show spec_l3SameNodes.l0 (k + 1) x0 x1 (i : Int) = _; rw [e0, if_neg (by simpa using c1), if_neg c2]) hT
   by_cases c3 : x0[i].f1.length = x1[i].f1.length
   case neg =>
    rw [hne c3 (fun h => by rw [h])]
    exact Ev.step (f := fun k => spec_l3SameNodes.j1 k x0 x1 (i : Int) true) (fun k => by show spec_l3SameNodes.l0 (k + 1) x0 x1 (i : Int) = _; rw [e0, if_neg (by simpa using c1), if_pos c2, if_neg (by omega)]) hT
   by_cases c4 : x0[i].f2.length = x1[i].f2.length
   case neg =>
    rw [hne c4 (fun h => by rw [h])]
    refine Ev.step (f := fun k => spec_l3SameNodes.j1 k x0 x1 (i : Int) true) (fun k => ?_) hT
    show spec_l3SameNodes.l0 (k + 1) x0 x1 (i : Int) = _
    rw [e0, if_neg (by simpa using c1), if_pos c2, if_pos (by omega), show ((x0[i].f2.length : Int) != (x1[i].f2.length : Int)) = true by simp; omega]
   have h2 := same2_ev h0 h1 c4 hx.2 hnext x0[i].f2.length 0 (by omega)
   have h3 := same1_ev h0 h1 c3 hx.1 h2 x0[i].f1.length 0 (by omega)
   have hj : Ev (fun k => spec_l3SameNodes.j1 k x0 x1 (i : Int) false) (iteB (x0.drop i = x1.drop i) true) := by
    refine Ev.step (f := fun k => spec_l3SameNodes.l1 k x0 x1 (i : Int) 0) (fun k => ?_) ?_
    ·show spec_l3SameNodes.j1 (k + 1) x0 x1 (i : Int) false = _
     rw [spec_l3SameNodes.j1, if_neg (by decide)]
    ·have e : iteB (x0.drop i = x1.drop i) true = iteB (x0[i].f1.drop 0 = x1[i].f1.drop 0) (iteB (x0[i].f2.drop 0 = x1[i].f2.drop 0) (iteB (x0.drop (i + 1) = x1.drop (i + 1)) true)) := by
      simp only [List.drop_zero]
      by_cases d1 : x0[i].f1 = x1[i].f1
      ·by_cases d2 : x0[i].f2 = x1[i].f2
       ·rw [iteB_pos d1, iteB_pos d2, drop_eq' h0 h1, iteB_and (node_eq.2 ⟨c1, c2, d1, d2⟩)]
       ·rw [iteB_pos d1, iteB_neg d2, hne d2 (fun h => by rw [h])]
      ·rw [iteB_neg d1, hne d1 (fun h => by rw [h])]
     rw [e]
     exact h3
   refine Ev.step (f := fun k => spec_l3SameNodes.j1 k x0 x1 (i : Int) false) (fun k => ?_) hj
   show spec_l3SameNodes.l0 (k + 1) x0 x1 (i : Int) = _
   rw [e0, if_neg (by simpa using c1), if_pos c2, if_pos (by omega), show ((x0[i].f2.length : Int) != (x1[i].f2.length : Int)) = false by simp; omega]
theorem same_ev (hm : x0.length ≤ 9223372036854775807) (hs : ∀ x ∈ x0, x.f1.length ≤ 9223372036854775807 ∧ x.f2.length ≤ 9223372036854775807) : Ev (fun k => spec_l3SameNodes.f k x0 x1) (iteB (x0 = x1) true) := by
 unfold spec_l3SameNodes.f
 by_cases hl : x0.length = x1.length
 ·have := same0_ev hl hm hs x0.length 0 (by omega)
  simp only [List.drop_zero] at this
  exact Ev.congr (fun k => by rw [if_pos (by omega)]; rfl) this
 ·rw [iteB_neg (fun h => hl (by rw [h]))]
  exact Ev.congr (f := fun _ => some false) (fun k => by rw [if_neg (by omega)]) (Ev.now _)
end

/-! ### L_xtree: a text by hand -/
-- plain: a valid tree, and what both programs take it for
def ascK (ks : List ByteArray) : Prop := ∀ (j : Nat) (x : ByteArray), ks[j]? = some x → x.size ≤ 16 ∧ ∀ y, 0 < j → ks[j - 1]? = some y → Op.bytesLess y.toList x.toList = true
def okT (ns : List S90) (d : Nat) (t : S56) : Prop := goodD d true t ∧ flatD d t 0 = ns ∧ ns.length ≤ 5000 ∧ ascK (keysD d t)
theorem flatL_len {f : S56 → Int → List S90} (hf : ∀ t a b, (f t a).length = (f t b).length) : ∀ (ks : List S56) (a b : Int), (flatL f ks a).length = (flatL f ks b).length
 | [], _, _ => rfl
 | k :: ks, a, b => by
   simp only [flatL, List.length_append]
   rw [hf k a b, flatL_len hf ks]
theorem flatD_len : ∀ (d : Nat) (t : S56) (a b : Int), (flatD d t a).length = (flatD d t b).length
 | 0, _, _, _ => rfl
 | d + 1, t, a, b => by
   simp only [flatD, List.length_cons]
   rw [flatL_len (fun t a b => flatD_len d t a b) t.f2 (a + 1) (b + 1)]
/-- l3Nest comes out behind the nodes that it read. -/
theorem nest_len (ns : List S90) : ∀ (f : Nat) (i : Int) (d : Nat) (r : Bool), (nestD ns f i).2.2 = true → goodD d r (nestD ns f i).1 → (nestD ns f i).2.1 = i + ((flatD d (nestD ns f i).1 0).length : Nat)
 | 0, i, d, r, h, _ => by cases h
 | f + 1, i, d, r, h, hg => by
   unfold nestD at h hg ⊢
   by_cases c1 : 0 ≤ i ∧ i < (ns.length : Int)
   ·rw [if_pos c1] at h hg ⊢
    by_cases c2 : (rd_T90 ns i).f0 = true
    ·rw [if_pos c2] at h hg ⊢
     cases d with
     | zero => simp [flatD]
     | succ d => cases hg.1
    ·rw [if_neg c2] at h hg ⊢
     cases d with
     | zero =>
       have key : ∀ (ks : List Int) (b : Bool) (next : Int) (acc : List S56), (nestL (nestD ns f) b ks next acc).1.f0 = false := by
        intro ks
        induction ks with
        | nil => intros; rfl
        | cons k ks ih =>
          intro b next acc
          unfold nestL
          split
          ·split
           ·exact ih _ _ _
           ·rfl
          ·rfl
       have := hg.1
       rw [key] at this
       cases this
     | succ d =>
       have key : ∀ (ks : List Int) (b : Bool) (next : Int) (acc : List S56), (nestL (nestD ns f) b ks next acc).2.2 = true → (∀ x ∈ (nestL (nestD ns f) b ks next acc).1.f2, goodD d false x) → ∃ ys, (nestL (nestD ns f) b ks next acc).1.f2 = acc ++ ys ∧ (nestL (nestD ns f) b ks next acc).2.1 = next + ((flatL (flatD d) ys 0).length : Nat) := by
        intro ks
        induction ks with
        | nil => intro b next acc _ _; exact ⟨[], by simp [nestL], by simp [nestL, flatL]⟩
        | cons k ks ih =>
          intro b next acc h hk
          unfold nestL at h hk ⊢
          by_cases c3 : k = next
          ·rw [if_pos c3] at h hk ⊢
           by_cases c4 : (nestD ns f next).2.2 = true
           ·rw [if_pos c4] at h hk ⊢
            obtain ⟨ys, e1, e2⟩ := ih b _ _ h hk
            have hkid : goodD d false (nestD ns f next).1 := hk _ (by rw [e1]; simp)
            have h5 := nest_len ns f next d false c4 hkid
            refine ⟨(nestD ns f next).1 :: ys, by rw [e1]; simp, ?_⟩
            rw [e2, h5]
            simp only [flatL, List.length_append, Int.natCast_add]
            rw [flatL_len (fun t a b => flatD_len d t a b) ys (0 + ((flatD d (nestD ns f next).1 0).length : Nat)) 0]
            omega
           ·rw [if_neg c4] at h; cases h
          ·rw [if_neg c3] at h; cases h
       obtain ⟨ys, e1, e2⟩ := key _ _ _ _ h hg.2.2.2.2
       rw [e2]
       simp only [flatD, List.length_cons]
       rw [e1, List.nil_append, flatL_len (fun t a b => flatD_len d t a b) ys (0 + 1) 0]
       omega
   ·rw [if_neg c1] at h; cases h
theorem depth_le {d : Nat} {r : Bool} {t : S56} (h : goodD d r t) (hl : (flatD d t 0).length ≤ 5000) : d ≤ 12 := by
 have h1 := flatD_two 0 h
 rcases Nat.lt_or_ge 12 d with c | c
 ·have : 2 ^ 13 ≤ 2 ^ d := Nat.pow_le_pow_right (by decide) c
  omega
 ·exact c
theorem okT.depth {ns : List S90} {d : Nat} {t : S56} (h : okT ns d t) : d ≤ 12 := depth_le h.1 (by rw [h.2.1]; exact h.2.2.1)
theorem okT.seg {ns : List S90} {d : Nat} {t : S56} (h : okT ns d t) : Seg ns 0 (flatD d t ((0 : Nat) : Int)) := ⟨[], by rw [List.append_nil]; exact h.2.1.symm⟩
theorem okT.nest {ns : List S90} {d : Nat} {t : S56} (h : okT ns d t) : nestD ns 21 0 = (t, (ns.length : Int), true) := by
 have h1 := nestD_of ns d true t 0 21 h.1 (by have := h.depth; omega) h.seg
 have e : (flatD d t ((0 : Nat) : Int)).length = ns.length := by rw [← h.2.1]; rfl
 rw [e] at h1
 simpa using h1
theorem okT.read {ns : List S90} {d : Nat} {t : S56} (h : okT ns d t) : readD ns 31 true 0 = some (t, d, (ns.length : Int)) := by
 have h1 := readD_of ns d true t 0 31 h.1 (by have := h.depth; omega) h.seg
 have e : (flatD d t ((0 : Nat) : Int)).length = ns.length := by rw [← h.2.1]; rfl
 rw [e] at h1
 simpa using h1
theorem okT.uniq {ns : List S90} {d d' : Nat} {t t' : S56} (h : okT ns d t) (h' : okT ns d' t') : d = d' ∧ t = t' := by
 have := h.read
 rw [h'.read] at this
 simp only [Option.some.injEq, Prod.mk.injEq] at this
 exact ⟨this.2.1.symm, this.1.symm⟩
theorem okT.pos {ns : List S90} {d : Nat} {t : S56} (h : okT ns d t) : 1 ≤ ns.length := by
 rw [← h.2.1]
 exact flatD_pos d t 0
/-- .. and l3Of's own way to it. -/
theorem okT_of_nest {ns : List S90} {x : S56} (hn : nestD ns 21 0 = (x, (ns.length : Int), true)) (hd : 0 ≤ depM 21 true x) (hl : ns.length ≤ 5000) : goodD (depM 21 true x).toNat true x ∧ (depM 21 true x).toNat ≤ 12 := by
 have h1 : (nestD ns 21 0).2.2 = true := by rw [hn]
 have h2 := shape_nest ns 21 0 h1
 rw [hn] at h2
 have h3 := depM_good 21 true x h2 hd
 refine ⟨h3, depth_le h3 ?_⟩
 have h4 := nest_len ns 21 0 (depM 21 true x).toNat true h1 (by rw [hn]; exact h3)
 rw [hn] at h4
 simp only at h4
 omega
theorem flatD_small : ∀ {d : Nat} {r : Bool} {t : S56} (a : Int), goodD d r t → ∀ n ∈ flatD d t a, n.f1.length ≤ 4 ∧ n.f2.length ≤ 4
 | 0, r, t, a, h, n, hn => by
   simp only [flatD, List.mem_singleton] at hn
   subst hn
   exact ⟨h.2.2.1, by simp⟩
 | d + 1, r, t, a, h, n, hn => by
   obtain ⟨_, _, _, h4, hk⟩ := h
   simp only [flatD, List.mem_cons] at hn
   rcases hn with rfl | hn
   ·simp only [sepL, noL_length, List.length_map, zX]
    omega
   ·have key : ∀ (ks : List S56) (b : Int), (∀ k ∈ ks, goodD d false k) → n ∈ flatL (flatD d) ks b → n.f1.length ≤ 4 ∧ n.f2.length ≤ 4 := by
     intro ks
     induction ks with
     | nil => intro b _ h; simp [flatL] at h
     | cons k ks ih =>
       intro b hk h
       simp only [flatL, List.mem_append] at h
       rcases h with h | h
       ·exact flatD_small b (hk k List.mem_cons_self) n h
       ·exact ih _ (fun x hx => hk x (List.mem_cons_of_mem _ hx)) h
    exact key _ _ hk hn

/-! ### L_yev: a text by hand -/
-- plain: the law's own totals over trees
def cvN (x : S98) : S90 := ⟨x.f0, x.f1, x.f2, x.f3⟩
def cvT (l : List S98) : List S90 := l.map cvN
theorem cvT_len (l : List S98) : (cvT l).length = l.length := by simp [cvT]
theorem rd98_at (l : List S98) (i : Nat) (h : i < l.length) : rd_T98 l (i : Int) = l[i] := by
 unfold rd_T98
 simp [List.getD_eq_getElem?_getD, h]
theorem w64a (i : Nat) (h : i < maxLen) : wrap64 ((i : Int) + 1) = ((i + 1 : Nat) : Int) := by unfold maxLen at h; unfold wrap64; omega
theorem w64sub (a : Int) (n : Nat) (h0 : 0 ≤ a) (h1 : a ≤ 1048576) (h : n ≤ maxLen) : wrap64 (a - (n : Int)) = a - n := by unfold maxLen at h; unfold wrap64; omega
theorem szStr_loop (l : List ByteArray) (hL : l.length ≤ maxLen) (hF : ∀ x ∈ l, x.size ≤ maxLen) : ∀ (d i : Nat) (a : Int), i + d = l.length → 0 ≤ a → a ≤ 1048576 → ∃ r, Ev (fun k => laws_szStringS.l0 k l a (i : Int)) r ∧ r ≤ a
 | 0, i, a, hd, h0, h1 => ⟨a, Ev.step (f := fun _ => some a) (fun k => by show laws_szStringS.l0 (k + 1) l a (i : Int) = _; rw [laws_szStringS.l0, if_neg (by omega)]) (Ev.now _), by omega⟩
 | d + 1, i, a, hd, h0, h1 => by
   have hi : i < l.length := by omega
   have hx := hF _ (List.getElem_mem hi)
   have e := w64sub a _ h0 h1 hx
   by_cases c : a - ((l[i].size : Nat) : Int) < 0
   ·exact ⟨-1, Ev.step (f := fun _ => some (-1)) (fun k => by show laws_szStringS.l0 (k + 1) l a (i : Int) = _; rw [laws_szStringS.l0, if_pos (by omega), if_pos (by omega), rdb_at _ _ hi, e, if_pos c]) (Ev.now _), by omega⟩
   ·obtain ⟨r, he, hr⟩ := szStr_loop l hL hF d (i + 1) (a - (l[i].size : Nat)) (by omega) (by omega) (by omega)
    exact ⟨r, Ev.step (f := fun k => laws_szStringS.l0 k l (a - (l[i].size : Nat)) ((i + 1 : Nat) : Int)) (fun k => by show laws_szStringS.l0 (k + 1) l a (i : Int) = _; rw [laws_szStringS.l0, if_pos (by omega), if_pos (by omega), rdb_at _ _ hi, e, if_neg c, w64a i (by omega)]) he, by omega⟩
theorem szStr_ev (l : List ByteArray) (hL : l.length ≤ maxLen) (hF : ∀ x ∈ l, x.size ≤ maxLen) (a : Int) (h0 : 0 ≤ a) (h1 : a ≤ 1048576) : ∃ r, Ev (fun k => laws_szStringS.f k l a) r ∧ r ≤ a ∧ (0 ≤ r → l.length ≤ 1048576) := by
 have e := w64sub a _ h0 h1 hL
 by_cases c : a - ((l.length : Nat) : Int) < 0
 ·exact ⟨-1, Ev.congr (f := fun _ => some (-1)) (fun k => by unfold laws_szStringS.f; rw [e, if_pos c]) (Ev.now _), by omega, by omega⟩
 ·obtain ⟨r, he, hr⟩ := szStr_loop l hL hF l.length 0 (a - (l.length : Nat)) (by omega) (by omega) (by omega)
  exact ⟨r, Ev.congr (fun k => by unfold laws_szStringS.f; rw [e, if_neg c]; rfl) he, by omega, fun _ => by omega⟩
def okN (x : S98) : Prop := x.f1.length ≤ 1048576 ∧ x.f2.length ≤ 1048576
def wfN (x : S98) : Prop := x.f1.length ≤ maxLen ∧ (∀ s ∈ x.f1, s.size ≤ maxLen) ∧ x.f2.length ≤ maxLen
theorem szNode_ev (x : S98) (hw : wfN x) (a : Int) (h0 : 0 ≤ a) (h1 : a ≤ 1048576) : ∃ r, Ev (fun k => laws_szTNode.f k x.f0 x.f1 x.f2 x.f3 a) r ∧ r ≤ a ∧ (0 ≤ r → okN x) := by
 obtain ⟨r, he, hr, hl⟩ := szStr_ev x.f1 hw.1 hw.2.1 a h0 h1
 by_cases c : r < 0
 ·refine ⟨-1, ?_, by omega, by omega⟩
  unfold laws_szTNode.f
  exact Ev.bind he (Ev.congr (f := fun _ => some (-1)) (fun k => by rw [if_pos c]) (Ev.now _))
 ·have e := w64sub r _ (by omega) (by omega) hw.2.2
  by_cases c2 : r - ((x.f2.length : Nat) : Int) < 0
  ·refine ⟨-1, ?_, by omega, by omega⟩
   unfold laws_szTNode.f
   refine Ev.bind he (Ev.congr (f := fun _ => some (-1)) (fun k => ?_) (Ev.now _))
   rw [if_neg c, laws_szInt64S.f, e, if_pos c2]
   simp only [Option.bind_some]
   rw [if_pos (by decide)]
  ·refine ⟨r - (x.f2.length : Nat), ?_, by omega, fun _ => ⟨hl (by omega), by omega⟩⟩
   unfold laws_szTNode.f
   refine Ev.bind he (Ev.congr (f := fun _ => some (r - (x.f2.length : Nat))) (fun k => ?_) (Ev.now _))
   rw [if_neg c, laws_szInt64S.f, e, if_neg c2]
   simp only [Option.bind_some]
   rw [if_neg c2]
theorem szNodes_loop (l : List S98) (hL : l.length ≤ maxLen) (hF : ∀ x ∈ l, wfN x) : ∀ (d i : Nat) (a : Int), i + d = l.length → 0 ≤ a → a ≤ 1048576 → ∃ r, Ev (fun k => laws_szTNodeS.l0 k l a (i : Int)) r ∧ r ≤ a ∧ (0 ≤ r → ∀ j, i ≤ j → (h : j < l.length) → okN l[j])
 | 0, i, a, hd, h0, h1 => ⟨a, Ev.step (f := fun _ => some a) (fun k => by show laws_szTNodeS.l0 (k + 1) l a (i : Int) = _; rw [laws_szTNodeS.l0, if_neg (by omega)]) (Ev.now _), by omega, fun _ j hj h => by omega⟩
 | d + 1, i, a, hd, h0, h1 => by
   have hi : i < l.length := by omega
   obtain ⟨r, he, hr, hok⟩ := szNode_ev l[i] (hF _ (List.getElem_mem hi)) a h0 h1
   have e1 : ∀ k, laws_szTNodeS.l0 (k + 1) l a (i : Int) = (laws_szTNode.f k l[i].f0 l[i].f1 l[i].f2 l[i].f3 a).bind fun t120 => if t120 < 0 then some (-1) else laws_szTNodeS.l0 k l t120 ((i + 1 : Nat) : Int) := fun k => by
    rw [laws_szTNodeS.l0, if_pos (by omega), if_pos (by omega), rd98_at _ _ hi, w64a i (by omega)]
   by_cases c : r < 0
   ·exact ⟨-1, Ev.step e1 (Ev.bind he (Ev.congr (f := fun _ => some (-1)) (fun k => by rw [if_pos c]) (Ev.now _))), by omega, by omega⟩
   ·obtain ⟨r2, he2, hr2, hok2⟩ := szNodes_loop l hL hF d (i + 1) r (by omega) (by omega) (by omega)
    refine ⟨r2, Ev.step e1 (Ev.bind he (Ev.congr (fun k => by rw [if_neg c]) he2)), by omega, fun h j hj hlt => ?_⟩
    rcases Nat.lt_or_ge i j with h3 | h3
    ·exact hok2 h j h3 hlt
    ·have : j = i := by omega
     subst this
     exact hok (by omega)
theorem szTree_ev (l : List S98) (hL : l.length ≤ maxLen) (hF : ∀ x ∈ l, wfN x) : ∃ r, Ev (fun k => laws_szTree.f k l 1048576) r ∧ (0 ≤ r → l.length ≤ 1048576 ∧ ∀ x ∈ l, okN x) := by
 have e := w64sub 1048576 _ (by decide) (by decide) hL
 have hs : ∃ r, Ev (fun k => laws_szTNodeS.f k l 1048576) r ∧ (0 ≤ r → l.length ≤ 1048576 ∧ ∀ x ∈ l, okN x) := by
  by_cases c : 1048576 - ((l.length : Nat) : Int) < 0
  ·exact ⟨-1, Ev.congr (f := fun _ => some (-1)) (fun k => by unfold laws_szTNodeS.f; rw [e, if_pos c]) (Ev.now _), by omega⟩
  ·obtain ⟨r, he, hr, hok⟩ := szNodes_loop l hL hF l.length 0 (1048576 - (l.length : Nat)) (by omega) (by omega) (by omega)
   refine ⟨r, Ev.congr (fun k => by unfold laws_szTNodeS.f; rw [e, if_neg c]; rfl) he, fun h => ⟨by omega, fun x hx => ?_⟩⟩
   obtain ⟨j, hj, rfl⟩ := List.getElem_of_mem hx
   exact hok h j (Nat.zero_le _) hj
 obtain ⟨r, he, hok⟩ := hs
 by_cases c : r < 0
 ·exact ⟨-1, Ev.bind he (Ev.congr (f := fun _ => some (-1)) (fun k => by rw [if_pos c]) (Ev.now _)), by omega⟩
 ·exact ⟨r, Ev.bind he (Ev.congr (f := fun _ => some r) (fun k => by rw [if_neg c]) (Ev.now _)), hok⟩
theorem toStr_loop (l : List ByteArray) (hL : l.length ≤ 1048576) : ∀ (d i : Nat) (x : List ByteArray), i + d = l.length → x.length = l.length → (∀ j, j < i → x[j]? = l[j]?) → Ev (fun k => laws_toStringS.l0 k l x (i : Int)) l
 | 0, i, x, hd, hx, hj => by
   obtain rfl : x = l := List.ext_getElem? fun j => by
    by_cases h : j < i
    ·exact hj j h
    ·rw [List.getElem?_eq_none (by omega), List.getElem?_eq_none (by omega)]
   exact Ev.step (f := fun _ => some x) (fun k => by show laws_toStringS.l0 (k + 1) x x (i : Int) = _; rw [laws_toStringS.l0, if_neg (by omega)]) (Ev.now _)
 | d + 1, i, x, hd, hx, hj => by
   have hi : i < l.length := by omega
   refine Ev.step (f := fun k => laws_toStringS.l0 k l (x.set i l[i]) ((i + 1 : Nat) : Int)) (fun k => ?_) (toStr_loop l hL d (i + 1) (x.set i l[i]) (by omega) (by simpa using hx) fun j hlt => ?_)
   ·show laws_toStringS.l0 (k + 1) l x (i : Int) = _
    rw [laws_toStringS.l0, if_pos (by omega), if_pos (by omega), if_pos (by omega), rdb_at _ _ hi, Int.toNat_natCast, w64s i (by omega)]
   ·rcases Nat.lt_or_ge j i with h | h
    ·rw [List.getElem?_set_ne (by omega)]; exact hj j h
    ·obtain rfl : j = i := by omega
     rw [List.getElem?_set_self (by omega), List.getElem?_eq_getElem hi]
theorem toStr_ev (l : List ByteArray) (hL : l.length ≤ 1048576) : Ev (fun k => laws_toStringS.f k l) l := by
 refine Ev.congr (fun k => ?_) (toStr_loop l hL l.length 0 (List.replicate l.length (⟨#[]⟩ : ByteArray)) (by omega) (by simp) (fun j h => by omega))
 unfold laws_toStringS.f
 rw [if_pos (by omega), Int.toNat_natCast, if_pos (by omega)]
 rfl
theorem toInt_loop (l : List Int) (hL : l.length ≤ 1048576) : ∀ (d i : Nat) (x : List Int), i + d = l.length → x.length = l.length → (∀ j, j < i → x[j]? = l[j]?) → Ev (fun k => laws_toInt64S.l0 k l x (i : Int)) l
 | 0, i, x, hd, hx, hj => by
   obtain rfl : x = l := List.ext_getElem? fun j => by
    by_cases h : j < i
    ·exact hj j h
    ·rw [List.getElem?_eq_none (by omega), List.getElem?_eq_none (by omega)]
   exact Ev.step (f := fun _ => some x) (fun k => by show laws_toInt64S.l0 (k + 1) x x (i : Int) = _; rw [laws_toInt64S.l0, if_neg (by omega)]) (Ev.now _)
 | d + 1, i, x, hd, hx, hj => by
   have hi : i < l.length := by omega
   refine Ev.step (f := fun k => laws_toInt64S.l0 k l (x.set i l[i]) ((i + 1 : Nat) : Int)) (fun k => ?_) (toInt_loop l hL d (i + 1) (x.set i l[i]) (by omega) (by simpa using hx) fun j hlt => ?_)
   ·show laws_toInt64S.l0 (k + 1) l x (i : Int) = _
    rw [laws_toInt64S.l0, if_pos (by omega), if_pos (by omega), if_pos (by omega), rdi_at _ _ hi, Int.toNat_natCast, w64s i (by omega)]
   ·rcases Nat.lt_or_ge j i with h | h
    ·rw [List.getElem?_set_ne (by omega)]; exact hj j h
    ·obtain rfl : j = i := by omega
     rw [List.getElem?_set_self (by omega), List.getElem?_eq_getElem hi]
theorem toInt_ev (l : List Int) (hL : l.length ≤ 1048576) : Ev (fun k => laws_toInt64S.f k l) l := by
 refine Ev.congr (fun k => ?_) (toInt_loop l hL l.length 0 (List.replicate l.length 0) (by omega) (by simp) (fun j h => by omega))
 unfold laws_toInt64S.f
 rw [if_pos (by omega), Int.toNat_natCast, if_pos (by omega)]
 rfl
theorem toNode_ev (x : S98) (h : okN x) : Ev (fun k => laws_toTNode.f k x.f0 x.f1 x.f2 x.f3) (x.f0, x.f1, x.f2, x.f3) := by
 unfold laws_toTNode.f
 exact Ev.bind (toStr_ev x.f1 h.1) (Ev.bind (toInt_ev x.f2 h.2) (Ev.now _))
theorem toNodes_loop (l : List S98) (hL : l.length ≤ 1048576) (hok : ∀ x ∈ l, okN x) : ∀ (d i : Nat) (x : List S90), i + d = l.length → x.length = l.length → (∀ j, j < i → x[j]? = (cvT l)[j]?) → Ev (fun k => laws_toTNodeS.l0 k l x (i : Int)) (cvT l)
 | 0, i, x, hd, hx, hj => by
   obtain rfl : x = cvT l := List.ext_getElem? fun j => by
    by_cases h : j < i
    ·exact hj j h
    ·rw [List.getElem?_eq_none (by omega), List.getElem?_eq_none (by rw [cvT_len]; omega)]
   exact Ev.step (f := fun _ => some (cvT l)) (fun k => by show laws_toTNodeS.l0 (k + 1) l (cvT l) (i : Int) = _; rw [laws_toTNodeS.l0, if_neg (by omega)]) (Ev.now _)
 | d + 1, i, x, hd, hx, hj => by
   have hi : i < l.length := by omega
   refine Ev.step (f := fun k => (laws_toTNode.f k l[i].f0 l[i].f1 l[i].f2 l[i].f3).bind fun bt258 => laws_toTNodeS.l0 k l (x.set i ⟨bt258.1, bt258.2.1, bt258.2.2.1, bt258.2.2.2⟩) ((i + 1 : Nat) : Int)) (fun k => ?_) (Ev.bind (toNode_ev l[i] (hok _ (List.getElem_mem hi))) (toNodes_loop l hL hok d (i + 1) (x.set i (cvN l[i])) (by omega) (by simpa using hx) fun j hlt => ?_))
   ·show laws_toTNodeS.l0 (k + 1) l x (i : Int) = _
    rw [laws_toTNodeS.l0, if_pos (by omega), if_pos (by omega), rd98_at _ _ hi, Int.toNat_natCast, w64s i (by omega)]
    congr 1
    funext bt
    rw [if_pos (by omega)]
   ·rcases Nat.lt_or_ge j i with h | h
    ·rw [List.getElem?_set_ne (by omega)]; exact hj j h
    ·obtain rfl : j = i := by omega
     rw [List.getElem?_set_self (by omega)]
     simp [cvT, hi]
theorem toTree_ev (l : List S98) (hL : l.length ≤ 1048576) (hok : ∀ x ∈ l, okN x) : Ev (fun k => laws_toTree.f k l) (cvT l) := by
 refine Ev.bind (a := cvT l) (Ev.congr (fun k => ?_) (toNodes_loop l hL hok l.length 0 (List.replicate l.length z90) (by omega) (by simp) (fun j h => by omega))) (Ev.now _)
 unfold laws_toTNodeS.f
 rw [if_pos (by omega), Int.toNat_natCast, if_pos (by omega)]
 rfl
theorem eqStr_loop (l : List ByteArray) (hL : l.length ≤ 1048576) : ∀ (d i : Nat), i + d = l.length → Ev (fun k => laws_eqStringS.l0 k l l (i : Int)) true
 | 0, i, hd => Ev.step (f := fun _ => some true) (fun k => by show laws_eqStringS.l0 (k + 1) l l (i : Int) = _; rw [laws_eqStringS.l0, if_neg (by omega)]) (Ev.now _)
 | d + 1, i, hd => Ev.step (f := fun k => laws_eqStringS.l0 k l l ((i + 1 : Nat) : Int)) (fun k => by show laws_eqStringS.l0 (k + 1) l l (i : Int) = _; rw [laws_eqStringS.l0, if_pos (by omega), if_pos (by omega), if_pos (by omega), if_pos rfl, w64s i (by omega)]) (eqStr_loop l hL d (i + 1) (by omega))
theorem eqStr_ev (l : List ByteArray) (hL : l.length ≤ 1048576) : Ev (fun k => laws_eqStringS.f k l l) true := Ev.congr (fun k => by unfold laws_eqStringS.f; rw [if_pos rfl]; rfl) (eqStr_loop l hL l.length 0 (by omega))
theorem eqInt_loop (l : List Int) (hL : l.length ≤ 1048576) : ∀ (d i : Nat), i + d = l.length → Ev (fun k => laws_eqInt64S.l0 k l l (i : Int)) true
 | 0, i, hd => Ev.step (f := fun _ => some true) (fun k => by show laws_eqInt64S.l0 (k + 1) l l (i : Int) = _; rw [laws_eqInt64S.l0, if_neg (by omega)]) (Ev.now _)
 | d + 1, i, hd => Ev.step (f := fun k => laws_eqInt64S.l0 k l l ((i + 1 : Nat) : Int)) (fun k => by show laws_eqInt64S.l0 (k + 1) l l (i : Int) = _; rw [laws_eqInt64S.l0, if_pos (by omega), if_pos (by omega), if_pos (by omega), if_pos rfl, w64s i (by omega)]) (eqInt_loop l hL d (i + 1) (by omega))
theorem eqInt_ev (l : List Int) (hL : l.length ≤ 1048576) : Ev (fun k => laws_eqInt64S.f k l l) true := Ev.congr (fun k => by unfold laws_eqInt64S.f; rw [if_pos rfl]; rfl) (eqInt_loop l hL l.length 0 (by omega))
theorem eqNode_ev (x : S90) (h1 : x.f1.length ≤ 1048576) (h2 : x.f2.length ≤ 1048576) : Ev (fun k => laws_eqTNode.f k x.f0 x.f1 x.f2 x.f3 x.f0 x.f1 x.f2 x.f3) true := by
 unfold laws_eqTNode.f
 refine Ev.congr (fun k => by rw [if_neg (by simp)]) ?_
 refine Ev.bind (eqStr_ev x.f1 h1) (Ev.congr (fun k => by rw [if_pos rfl]) ?_)
 exact Ev.bind (eqInt_ev x.f2 h2) (Ev.congr (f := fun _ => some true) (fun k => by rw [if_pos rfl, if_pos rfl]) (Ev.now _))
theorem eqNodes_loop (l : List S90) (hL : l.length ≤ 1048576) (hok : ∀ x ∈ l, x.f1.length ≤ 1048576 ∧ x.f2.length ≤ 1048576) : ∀ (d i : Nat), i + d = l.length → Ev (fun k => laws_eqTNodeS.l0 k l l (i : Int)) true
 | 0, i, hd => Ev.step (f := fun _ => some true) (fun k => by show laws_eqTNodeS.l0 (k + 1) l l (i : Int) = _; rw [laws_eqTNodeS.l0, if_neg (by omega)]) (Ev.now _)
 | d + 1, i, hd => by
   have hi : i < l.length := by omega
   have hx := hok _ (List.getElem_mem hi)
   refine Ev.step (f := fun k => (laws_eqTNode.f k l[i].f0 l[i].f1 l[i].f2 l[i].f3 l[i].f0 l[i].f1 l[i].f2 l[i].f3).bind fun t111 => if t111 = true then laws_eqTNodeS.l0 k l l ((i + 1 : Nat) : Int) else some false) (fun k => ?_) (Ev.bind (eqNode_ev l[i] hx.1 hx.2) (Ev.congr (fun k => by rw [if_pos rfl]) (eqNodes_loop l hL hok d (i + 1) (by omega))))
   show laws_eqTNodeS.l0 (k + 1) l l (i : Int) = _
   rw [laws_eqTNodeS.l0, if_pos (by omega), if_pos (by omega), if_pos (by omega), rd90_at _ _ hi, w64s i (by omega)]
theorem eqTree_ev (l : List S90) (hL : l.length ≤ 1048576) (hok : ∀ x ∈ l, x.f1.length ≤ 1048576 ∧ x.f2.length ≤ 1048576) : Ev (fun k => laws_eqTree.f k l l) true := by
 unfold laws_eqTree.f
 exact Ev.bind (a := true) (Ev.congr (fun k => by unfold laws_eqTNodeS.f; rw [if_pos rfl]; rfl) (eqNodes_loop l hL hok l.length 0 (by omega))) (Ev.congr (f := fun _ => some true) (fun k => by rw [if_pos rfl]) (Ev.now _))

/-! ### L_zrank: a text by hand -/
-- plain: the rank of a key
theorem bless_eq : ∀ (x y : List UInt8), Op.bytesLess x y = decide (x < y)
 | [], [] => by simp [Op.bytesLess]
 | _ :: _, [] => by simp [Op.bytesLess]
 | [], _ :: _ => by simp [Op.bytesLess]
 | a :: x, b :: y => by
   rw [Op.bytesLess, bless_eq x y]
   simp only [List.cons_lt_cons_iff]
   by_cases h1 : a < b <;> by_cases h2 : a = b <;> by_cases h3 : x < y <;> simp [h1, h2, h3]
def lt (a b : ByteArray) : Bool := Op.bytesLess a.toList b.toList
theorem lt_iff {a b : ByteArray} : lt a b = true ↔ a.toList < b.toList := by unfold lt; rw [bless_eq]; simp
theorem lt_trans {a b c : ByteArray} (h : lt a b = true) (h2 : lt b c = true) : lt a c = true := by
 rw [lt_iff] at *
 exact List.lt_trans h h2
theorem lt_irrefl (a : ByteArray) : lt a a = false := by
 cases h : lt a a with
 | false => rfl
 | true => rw [lt_iff] at h; exact absurd h (List.lt_irrefl _)
theorem lt_asymm {a b : ByteArray} (h : lt a b = true) : lt b a = false := by
 cases h2 : lt b a with
 | false => rfl
 | true => have := lt_trans h h2; rw [lt_irrefl] at this; cases this
theorem lt_tri {a b : ByteArray} (h : lt a b = false) (hne : a ≠ b) : lt b a = true := by
 rw [lt_iff]
 have h1 : ¬ a.toList < b.toList := fun hh => by rw [← lt_iff, h] at hh; cases hh
 rcases List.le_iff_lt_or_eq.1 (List.not_lt.1 h1) with h2 | h2
 ·exact h2
 ·exact absurd (bs_inj h2).symm hne
def srt (ks : List ByteArray) : Prop := ks.Pairwise (fun a b => lt a b = true)
theorem ascK_tail {k : ByteArray} {ks : List ByteArray} (h : ascK (k :: ks)) : ascK ks := fun j x hx => by
 have := h (j + 1) x (by simpa using hx)
 exact ⟨this.1, fun y h0 hy => this.2 y (by omega) (by
  have e : j + 1 - 1 = (j - 1) + 1 := by omega
  rw [e]
  simpa using hy)⟩
theorem ascK_srt : ∀ {ks : List ByteArray}, ascK ks → srt ks
 | [], _ => List.Pairwise.nil
 | [k], _ => List.pairwise_singleton _ _
 | k :: k2 :: ks, h => by
   have h2 := ascK_srt (ascK_tail h)
   have h1 : lt k k2 = true := (h 1 k2 rfl).2 k (by omega) rfl
   refine List.Pairwise.cons (fun x hx => ?_) h2
   rcases List.mem_cons.1 hx with rfl | hx
   ·exact h1
   ·exact lt_trans h1 ((List.pairwise_cons.1 h2).1 x hx)
def cntLt (key : ByteArray) (ks : List ByteArray) : Nat := ks.countP (fun k => lt k key)
theorem cnt_append (key : ByteArray) (a b : List ByteArray) : cntLt key (a ++ b) = cntLt key a + cntLt key b := List.countP_append
theorem cnt_all {key : ByteArray} {ks : List ByteArray} (h : ∀ x ∈ ks, lt x key = true) : cntLt key ks = ks.length := List.countP_eq_length.2 h
theorem cnt_none {key : ByteArray} {ks : List ByteArray} (h : ∀ x ∈ ks, lt x key = false) : cntLt key ks = 0 := List.countP_eq_zero.2 (fun x hx => by rw [h x hx]; decide)
theorem cnt_le (key : ByteArray) (ks : List ByteArray) : cntLt key ks ≤ ks.length := List.countP_le_length
/-- In an ascending list an element is below the key exactly where its place is below the count. -/
theorem cnt_at {key : ByteArray} {ks : List ByteArray} (hs : srt ks) {i : Nat} (hi : i < ks.length) : lt ks[i] key = true ↔ i < cntLt key ks := by
 have hp := List.pairwise_iff_getElem.1 hs
 constructor
 ·intro h
  have h1 : cntLt key (ks.take (i + 1)) = (ks.take (i + 1)).length := cnt_all (fun x hx => by
    obtain ⟨j, hj, rfl⟩ := List.getElem_of_mem hx
    rw [zW] at hj
    rw [List.getElem_take]
    rcases Nat.lt_or_ge j i with h3 | h3
    ·exact lt_trans (hp j i (by omega) hi h3) h
    ·have : j = i := by omega
     subst this
     exact h)
  have h2 : cntLt key ks = cntLt key (ks.take (i + 1)) + cntLt key (ks.drop (i + 1)) := by rw [← cnt_append, List.take_append_drop]
  rw [zW] at h1
  omega
 ·intro h
  cases h0 : lt ks[i] key with
  | true => rfl
  | false =>
    have h1 : cntLt key (ks.drop i) = 0 := cnt_none (fun x hx => by
     obtain ⟨j, hj, rfl⟩ := List.getElem_of_mem hx
     rw [List.getElem_drop]
     rw [zX] at hj
     rcases Nat.eq_zero_or_pos j with h3 | h3
     ·subst h3
      exact h0
     ·cases h4 : lt ks[i + j] key with
      | false => rfl
      | true =>
        have := lt_trans (hp i (i + j) hi (by omega) (by omega)) h4
        rw [h0] at this
        cases this)
    have h2 : cntLt key ks = cntLt key (ks.take i) + cntLt key (ks.drop i) := by rw [← cnt_append, List.take_append_drop]
    have h3 := cnt_le key (ks.take i)
    rw [zW] at h3
    omega
theorem less_f (a b : ByteArray) : cmp_Less_string.f a b = some (lt a b) := by
 unfold cmp_Less_string.f cmp_isNaN_string.f
 simp only [bne_self_eq_false, Option.bind_some, Bool.false_eq_true, if_false]
 rfl
theorem nan_f (a : ByteArray) : slices_isNaN_string.f a = some false := by
 unfold slices_isNaN_string.f
 simp
/-- The child that a key belongs to. -/
def leB (a b : ByteArray) : Bool := lt a b || decide (a = b)
def chI (d : Nat) (key : ByteArray) (ks : List S56) : Nat := ((ks.drop 1).takeWhile (fun k => leB (headK d k) key)).length
theorem chI_lt {d : Nat} {key : ByteArray} {ks : List S56} (h : 0 < ks.length) : chI d key ks < ks.length := by
 have h1 : ((ks.drop 1).takeWhile (fun k => leB (headK d k) key)).length ≤ (ks.drop 1).length := (List.takeWhile_sublist _).length_le
 rw [zX] at h1
 unfold chI
 omega
theorem leB_lt {a b c : ByteArray} (h : lt a b = true) (h2 : leB b c = true) : lt a c = true := by
 unfold leB at h2
 rw [Bool.or_eq_true] at h2
 rcases h2 with h2 | h2
 ·exact lt_trans h h2
 ·rw [← zI h2]; exact h
theorem leB_not {a b : ByteArray} (h : leB a b = false) : lt b a = true := by
 unfold leB at h
 rw [Bool.or_eq_false_iff] at h
 exact lt_tri h.1 (of_decide_eq_false h.2)
theorem headK_mem {d : Nat} {k : S56} (h : goodD d false k) : headK d k ∈ keysD d k := by
 have := keysD_pos h
 unfold headK
 rw [List.getD_eq_getElem?_getD, List.getElem?_eq_getElem this]
 exact List.getElem_mem _
theorem headK_le {d : Nat} {k : S56} (h : goodD d false k) (hs : srt (keysD d k)) {x : ByteArray} (hx : x ∈ keysD d k) : x = headK d k ∨ lt (headK d k) x = true := by
 have hp := keysD_pos h
 rcases hk : keysD d k with _ | ⟨y, l⟩
 ·rw [hk] at hp; simp at hp
 ·have e : headK d k = y := by unfold headK; rw [hk]; rfl
  rw [e]
  rw [hk] at hx hs
  rcases List.mem_cons.1 hx with rfl | hx
  ·exact Or.inl rfl
  ·exact Or.inr ((List.pairwise_cons.1 hs).1 x hx)
open Classical in
noncomputable def treeKeys (ns : List S90) : Option (List ByteArray) := if h : ∃ q : Nat × S56, okT ns q.1 q.2 then some (keysD (Classical.choose h).1 (Classical.choose h).2) else none
noncomputable def rankM (ns : List S90) (key : ByteArray) : Int := match treeKeys ns with
 | none => 0
 | some ks => (cntLt key ks : Int)

/-! ### L_zsins: a text by hand -/
-- plain: a key put into a tree
def sizeD : Nat → S56 → Nat
 | 0, t => t.f1.length
 | _ + 1, t => t.f2.length
def partD : Nat → S56 → Nat → Nat → S56
 | 0, t, a, b => ⟨true, (t.f1.take b).drop a, []⟩
 | _ + 1, t, a, b => ⟨false, [], (t.f2.take b).drop a⟩
def splitD (d : Nat) (t : S56) : List S56 := if sizeD d t ≤ 4 then [t] else [partD d t 0 3, partD d t 3 5]
def insL (key : ByteArray) (l : List ByteArray) : List ByteArray := l.take (cntLt key l) ++ key :: l.drop (cntLt key l)
def insD (key : ByteArray) : Nat → S56 → List S56
 | 0, t => splitD 0 ⟨true, insL key t.f1, []⟩
 | d + 1, t => splitD (d + 1) ⟨false, [], t.f2.take (chI d key t.f2) ++ insD key d (rd_T56 t.f2 ((chI d key t.f2 : Nat) : Int)) ++ t.f2.drop (chI d key t.f2 + 1)⟩
theorem insL_len (key : ByteArray) (l : List ByteArray) : (insL key l).length = l.length + 1 := by
 have := cnt_le key l
 unfold insL
 rw [List.length_append, List.length_cons, zW, zX]
 omega
/-- What one level of kids is after an insertion: at most five good ones. -/
theorem ins_good (key : ByteArray) : ∀ (d : Nat) (r : Bool) (t : S56), goodD d r t → (∃ x, insD key d t = [x] ∧ goodD d r x) ∨ (∃ x y, insD key d t = [x, y] ∧ goodD d false x ∧ goodD d false y)
 | 0, r, t, h => by
   have hl := insL_len key t.f1
   have h3 := h.2.2.1
   unfold insD splitD
   by_cases c : sizeD 0 (⟨true, insL key t.f1, []⟩ : S56) ≤ 4
   ·rw [if_pos c]
    refine Or.inl ⟨_, rfl, rfl, rfl, c, ?_⟩
    rcases h.2.2.2 with h4 | h4
    ·exact Or.inl h4
    ·exact Or.inr (by show 2 ≤ (insL key t.f1).length; omega)
   ·rw [if_neg c]
    have c' : ¬ (insL key t.f1).length ≤ 4 := c
    refine Or.inr ⟨_, _, rfl, ⟨rfl, rfl, ?_, Or.inr ?_⟩, ⟨rfl, rfl, ?_, Or.inr ?_⟩⟩ <;> simp only [partD, zX, zW] <;> omega
 | d + 1, r, t, h => by
   obtain ⟨_, _, h2, h4, hk⟩ := h
   have hat := chI_lt (d := d) (key := key) (ks := t.f2) (by omega)
   have hmem : rd_T56 t.f2 ((chI d key t.f2 : Nat) : Int) ∈ t.f2 := by
    rw [rd56_at _ _ hat]
    exact List.getElem_mem _
   have ih := ins_good key d false _ (hk _ hmem)
   have hks : ∀ k ∈ t.f2.take (chI d key t.f2) ++ insD key d (rd_T56 t.f2 ((chI d key t.f2 : Nat) : Int)) ++ t.f2.drop (chI d key t.f2 + 1), goodD d false k := by
    intro k hkm
    rw [List.mem_append, List.mem_append] at hkm
    rcases hkm with (hkm | hkm) | hkm
    ·exact hk k (List.mem_of_mem_take hkm)
    ·rcases ih with ⟨x, e, hx⟩ | ⟨x, y, e, hx, hy⟩
     ·rw [e] at hkm
      simp only [List.mem_singleton] at hkm
      rw [hkm]
      exact hx
     ·rw [e] at hkm
      simp only [List.mem_cons, List.not_mem_nil, or_false] at hkm
      rcases hkm with rfl | rfl
      ·exact hx
      ·exact hy
    ·exact hk k (List.mem_of_mem_drop hkm)
   have hlen : (t.f2.take (chI d key t.f2) ++ insD key d (rd_T56 t.f2 ((chI d key t.f2 : Nat) : Int)) ++ t.f2.drop (chI d key t.f2 + 1)).length = t.f2.length ∨ (t.f2.take (chI d key t.f2) ++ insD key d (rd_T56 t.f2 ((chI d key t.f2 : Nat) : Int)) ++ t.f2.drop (chI d key t.f2 + 1)).length = t.f2.length + 1 := by
    simp only [List.length_append, zW, zX]
    rcases ih with ⟨x, e, _⟩ | ⟨x, y, e, _, _⟩
    ·rw [e]; simp only [List.length_cons, List.length_nil]; omega
    ·rw [e]; simp only [List.length_cons, List.length_nil]; omega
   unfold insD
   generalize t.f2.take (chI d key t.f2) ++ insD key d (rd_T56 t.f2 ((chI d key t.f2 : Nat) : Int)) ++ t.f2.drop (chI d key t.f2 + 1) = ks at *
   unfold splitD
   by_cases c : sizeD (d + 1) (⟨false, [], ks⟩ : S56) ≤ 4
   ·rw [if_pos c]
    exact Or.inl ⟨_, rfl, rfl, rfl, by show 2 ≤ ks.length; omega, c, hks⟩
   ·rw [if_neg c]
    have c' : ¬ ks.length ≤ 4 := c
    refine Or.inr ⟨_, _, rfl, ⟨rfl, rfl, ?_, ?_, fun k hk => hks k (List.mem_of_mem_take (List.mem_of_mem_drop hk))⟩, ⟨rfl, rfl, ?_, ?_, fun k hk => hks k (List.mem_of_mem_take (List.mem_of_mem_drop hk))⟩⟩ <;> simp only [partD, zX, zW] <;> omega
/-- The new root. -/
def topD (d : Nat) : List S56 → Nat × S56
 | [x] => (d, x)
 | l => (d + 1, ⟨false, [], l⟩)
theorem top_good (key : ByteArray) {d : Nat} {t : S56} (h : goodD d true t) : goodD (topD d (insD key d t)).1 true (topD d (insD key d t)).2 := by
 rcases ins_good key d true t h with ⟨x, e, hx⟩ | ⟨x, y, e, hx, hy⟩
 ·rw [e]; exact hx
 ·rw [e]
  refine ⟨rfl, rfl, zY 2, show 2 ≤ 4 by decide, fun k (hk : k ∈ [x, y]) => ?_⟩
  simp only [List.mem_cons, List.not_mem_nil, or_false] at hk
  rcases hk with rfl | rfl
  ·exact hx
  ·exact hy
open Classical in
/-- The tree that the nodes are, and its depth. -/
noncomputable def treeOf (ns : List S90) : Option (Nat × S56) := if h : ∃ q : Nat × S56, okT ns q.1 q.2 then some (Classical.choose h) else none
theorem treeOf_of {ns : List S90} {d : Nat} {t : S56} (h : okT ns d t) : treeOf ns = some (d, t) := by
 have hx : ∃ q : Nat × S56, okT ns q.1 q.2 := ⟨(d, t), h⟩
 unfold treeOf
 rw [dif_pos hx]
 obtain ⟨e1, e2⟩ := okT.uniq (Classical.choose_spec hx) h
 exact congrArg some (Prod.ext e1 e2)
theorem treeOf_none {ns : List S90} (h : ∀ d t, ¬ okT ns d t) : treeOf ns = none := by
 unfold treeOf
 rw [dif_neg (fun ⟨q, hq⟩ => h q.1 q.2 hq)]
open Classical in
noncomputable def insM (ns : List S90) (key : ByteArray) : Bool × List S90 := match treeOf ns with
 | none => (false, ns)
 | some (d, t) => if 16 < key.size ∨ key ∈ keysD d t then (false, ns) else if 5000 < (flatD (topD d (insD key d t)).1 (topD d (insD key d t)).2 0).length then (false, ns) else (true, flatD (topD d (insD key d t)).1 (topD d (insD key d t)).2 0)

/-! ### L_zt_child: a text by hand -/
theorem takeWhile_iff {α : Type} {p : α → Bool} : ∀ {l : List α} (_ : ∀ i j (hj : j < l.length) (hij : i < j), p l[j] = true → p (l[i]'(by omega)) = true) {i : Nat} (hi : i < l.length), p l[i] = true ↔ i < (l.takeWhile p).length
 | [], _, i, hi => absurd hi (Nat.not_lt_zero _)
 | x :: l, hm, i, hi => by
   rw [List.takeWhile_cons]
   cases hx : p x with
   | true =>
     cases i with
     | zero => simp [hx]
     | succ i =>
       have := takeWhile_iff (l := l) (fun a b hb hab hp => hm (a + 1) (b + 1) (by simp; omega) (by omega) (by simpa using hp)) (i := i) (by simpa using hi)
       simp only [List.getElem_cons_succ, if_true, List.length_cons]
       rw [this]
       omega
   | false =>
     cases i with
     | zero => simp [hx]
     | succ i =>
       simp only [List.getElem_cons_succ]
       constructor
       ·intro h
        have := hm 0 (i + 1) hi (by omega) (by simpa using h)
        simp [hx] at this
       ·intro h
        simp at h
theorem heads_asc {d : Nat} {ks : List S56} (hg : ∀ k ∈ ks, goodD d false k) (hs : srt ((ks.map (keysD d)).flatten)) {i j : Nat} (hij : i < j) (hj : j < ks.length) : lt (headK d (ks[i]'(by omega))) (headK d ks[j]) = true := by
 have h2 := (List.pairwise_flatten.1 hs).2
 rw [List.pairwise_map] at h2
 exact List.pairwise_iff_getElem.1 h2 i j (by omega) hj hij _ (headK_mem (hg _ (List.getElem_mem _))) _ (headK_mem (hg _ (List.getElem_mem _)))
theorem chI_iff {d : Nat} {key : ByteArray} {ks : List S56} (hg : ∀ k ∈ ks, goodD d false k) (hs : srt ((ks.map (keysD d)).flatten)) {i : Nat} (h1 : 1 ≤ i) (hi : i < ks.length) : leB (headK d ks[i]) key = true ↔ i ≤ chI d key ks := by
 have hl : (ks.drop 1).length = ks.length - 1 := zX
 have h := takeWhile_iff (p := fun k => leB (headK d k) key) (l := ks.drop 1) (fun a b hb hab hp => by
  rw [hl] at hb
  simp only [List.getElem_drop] at hp ⊢
  have := heads_asc hg hs (i := 1 + a) (j := 1 + b) (by omega) (by omega)
  unfold leB
  rw [leB_lt this hp, Bool.true_or]) (i := i - 1) (by omega)
 simp only [List.getElem_drop] at h
 have e : 1 + (i - 1) = i := by omega
 simp only [e] at h
 rw [h]
 unfold chI
 omega
theorem srt_kid {d : Nat} {ks : List S56} (hs : srt ((ks.map (keysD d)).flatten)) {k : S56} (hk : k ∈ ks) : srt (keysD d k) :=
 (List.pairwise_flatten.1 hs).1 _ (List.mem_map_of_mem hk)

/-! ### L_zu_cut: a text by hand -/
/-- A slice expression of a row that is read. -/
theorem cutF_mid {α : Type} {d : Kd α} {P : Program} (t e : TypeId) {i : TypeInfo} (ht : P.underlying t = some (.slice e)) (hi : P.info? e = some i) (hsz : i.size = d.sz) {W : World} {ok : Nat → Prop} {A : Option Addr} {xs : List α} {c : Nat} (hF : Kd.F d W ok A xs.length xs) (hc : xs.length ≤ c) {a b : Nat} (hab : a ≤ b) (hb : b ≤ xs.length) :
  ∃ A', (∀ W : World, (Instr.slice t (.slice A xs.length c) (some (.int .i64 (a : Int))) (some (.int .i64 (b : Int))) none).run P W = .ok (.slice A' (b - a) (c - a)) W) ∧ Kd.F d W ok A' ((xs.take b).drop a).length ((xs.take b).drop a) ∧ ((xs.take b).drop a).length = b - a :=
 ⟨_, fun W => by simpa using cut_mid t e .i64 .i64 ht hi d.sz hsz A xs.length c (a : Int) (b : Int) (by omega) (by omega) (by omega) hc W, Kd.F_mid hF hab hb hc, by rw [zX, zW]; omega⟩

/-! ### L_zv_insev: a text by hand -/
-- plain: what spec's insertion computes
theorem child_loop {d : Nat} {r : Bool} {t : S56} (key : ByteArray) (hg : goodD (d + 1) r t) (hs : srt (keysD (d + 1) t)) (hd : d ≤ 19) (b : Bool) (l1 : List ByteArray) : ∀ (m i : Nat) (a : Int), 1 ≤ i → i + m = t.f2.length → a = ((min (i - 1) (chI d key t.f2) : Nat) : Int) → Ev (fun k => spec_l3Child.l0 k key a (i : Int) b l1 t.f2) ((chI d key t.f2 : Nat) : Int)
 | 0, i, a, h1, hm, ha => by
   have hc := chI_lt (d := d) (key := key) (ks := t.f2) (by have := hg.2.2.1; omega)
   refine Ev.step (f := fun _ => some ((chI d key t.f2 : Nat) : Int)) (fun K => ?_) (Ev.now _)
   show spec_l3Child.l0 (K + 1) key a (i : Int) b l1 t.f2 = _
   rw [spec_l3Child.l0, if_neg (by omega), ha]
   congr 2
   omega
 | m + 1, i, a, h1, hm, ha => by
   have hi : i < t.f2.length := by omega
   have h4 := hg.2.2.2.1
   have hge : goodD d false t.f2[i] := hg.2.2.2.2 _ (List.getElem_mem _)
   have hke : Ev (fun k => spec_l3Keys.f k (t.f2[i]).f0 (t.f2[i]).f1 (t.f2[i]).f2) (keysD d t.f2[i]) := ⟨6 * d + 1, fun k hk => keys_at d false _ k hge (by omega) hk⟩
   have hif := chI_iff (key := key) hg.2.2.2.2 (show srt ((t.f2.map (keysD d)).flatten) from hs) h1 hi
   have hpos := keysD_pos hge
   have hw : wrap64 ((i : Int) + 1) = ((i + 1 : Nat) : Int) := by unfold wrap64; omega
   refine Ev.step (f := fun k => (spec_l3Keys.f k (t.f2[i]).f0 (t.f2[i]).f1 (t.f2[i]).f2).bind fun q => if 0 < (q.length : Int) then (if Op.bytesLess key.toList ((rdOf ByteArray.empty q 0).toList) = true then spec_l3Child.l0 k key a (wrap64 ((i : Int) + 1)) b l1 t.f2 else spec_l3Child.l0 k key (i : Int) (wrap64 ((i : Int) + 1)) b l1 t.f2) else none) (fun K => by
     show spec_l3Child.l0 (K + 1) key a (i : Int) b l1 t.f2 = _
     rw [spec_l3Child.l0, if_pos (by omega), if_pos (by omega), rd56_at _ _ hi]) (Ev.bind hke ?_)
   have hr : rdOf ByteArray.empty (keysD d t.f2[i]) 0 = headK d t.f2[i] := rfl
   cases hle : leB (headK d t.f2[i]) key with
   | true =>
     have hn : Op.bytesLess key.toList (headK d t.f2[i]).toList = false := by
      unfold leB at hle
      rcases Bool.or_eq_true _ _ |>.mp hle with h2 | h2
      ·exact lt_asymm h2
      ·have := zI h2
       rw [this]
       exact lt_irrefl key
     refine Ev.congr (fun k => by rw [if_pos (by omega), hr, if_neg (by rw [hn]; decide), hw]) (child_loop key hg hs hd b l1 m (i + 1) (i : Int) (by omega) (by omega) ?_)
     have := hif.1 hle
     congr 1
     omega
   | false =>
     have hn : Op.bytesLess key.toList (headK d t.f2[i]).toList = true := leB_not hle
     refine Ev.congr (fun k => by rw [if_pos (by omega), hr, if_pos hn, hw]) (child_loop key hg hs hd b l1 m (i + 1) a (by omega) (by omega) ?_)
     have : ¬ i ≤ chI d key t.f2 := fun h => by have := hif.2 h; rw [hle] at this; cases this
     rw [ha]
     congr 1
     omega
theorem child_ev {d : Nat} {r : Bool} {t : S56} (key : ByteArray) (hg : goodD (d + 1) r t) (hs : srt (keysD (d + 1) t)) (hd : d ≤ 19) (b : Bool) (l1 : List ByteArray) : Ev (fun k => spec_l3Child.f k b l1 t.f2 key) ((chI d key t.f2 : Nat) : Int) := by
 have h := hg.2.2.1
 exact child_loop key hg hs hd b l1 (t.f2.length - 1) 1 0 (by omega) (by omega) (by simp)
theorem sins_split0 (l : List ByteArray) (hl : l.length ≤ 5) : spec_l3Split.f true l [] = some (splitD 0 ⟨true, l, []⟩) := by
 unfold spec_l3Split.f spec_l3Size.f
 rw [if_pos rfl, Option.bind_some]
 unfold splitD
 by_cases c : l.length ≤ 4
 ·rw [if_pos (by omega), if_pos (show sizeD 0 (⟨true, l, []⟩ : S56) ≤ 4 from c)]
 ·have e5 : l.length = 5 := by omega
  rw [if_neg (by omega), if_neg (show ¬ sizeD 0 (⟨true, l, []⟩ : S56) ≤ 4 from c)]
  unfold spec_l3Part.f
  simp [e5, partD]
theorem sins_splitS (d : Nat) (l : List S56) (hl : l.length ≤ 5) : spec_l3Split.f false [] l = some (splitD (d + 1) ⟨false, [], l⟩) := by
 unfold spec_l3Split.f spec_l3Size.f
 rw [if_neg (by decide), Option.bind_some]
 unfold splitD
 by_cases c : l.length ≤ 4
 ·rw [if_pos (by omega), if_pos (show sizeD (d + 1) (⟨false, [], l⟩ : S56) ≤ 4 from c)]
 ·have e5 : l.length = 5 := by omega
  rw [if_neg (by omega), if_neg (show ¬ sizeD (d + 1) (⟨false, [], l⟩ : S56) ≤ 4 from c)]
  unfold spec_l3Part.f
  simp [e5, partD]
theorem ins0_loop (key : ByteArray) (b : Bool) {l : List ByteArray} (hs : srt l) (h4 : l.length ≤ 4) : ∀ (m i : Nat), i + m = l.length → i ≤ cntLt key l → Ev (fun k => spec_l3Ins.l0 k key (l.take i) (i : Int) b l []) (splitD 0 ⟨true, insL key l, []⟩) := by
 have hc := cnt_le key l
 have hend : Ev (fun k => spec_l3Ins.j1 k key (l.take (cntLt key l)) b l []) (splitD 0 ⟨true, insL key l, []⟩) := by
   have hl : (l.take (cntLt key l)).length = cntLt key l := by rw [zW]; omega
   have he : l.take (cntLt key l) ++ [key] ++ l.drop ((((l.take (cntLt key l)).length : Nat) : Int) : Int).toNat = insL key l := by
    rw [hl, Int.toNat_natCast, List.append_assoc]; rfl
   have hsp := sins_split0 (insL key l) (by rw [insL_len]; omega)
   refine Ev.step (f := fun _ => some (splitD 0 ⟨true, insL key l, []⟩)) (fun K => ?_) (Ev.now _)
   show spec_l3Ins.j1 (K + 1) key (l.take (cntLt key l)) b l [] = _
   rw [spec_l3Ins.j1, if_pos (by omega), Option.bind_some, if_pos (by omega), if_pos (by omega), if_pos (by simp only [List.length_append, zX, List.length_cons, List.length_nil]; omega), he, hsp]
   rfl
 intro m
 induction m with
 | zero =>
   intro i hi hic
   have e : i = cntLt key l := by omega
   rw [e]
   refine Ev.step (fun K => ?_) hend
   show spec_l3Ins.l0 (K + 1) key (l.take (cntLt key l)) ((cntLt key l : Nat) : Int) b l [] = _
   rw [spec_l3Ins.l0, if_neg (by omega)]
 | succ m ih =>
   intro i hi hic
   have hil : i < l.length := by omega
   have hat := cnt_at (key := key) hs hil
   have hw : wrap64 ((i : Int) + 1) = ((i + 1 : Nat) : Int) := by unfold wrap64; omega
   by_cases c : lt l[i] key = true
   ·refine Ev.step (fun K => ?_) (ih (i + 1) (by omega) (by have := hat.1 c; omega))
    show spec_l3Ins.l0 (K + 1) key (l.take i) (i : Int) b l [] = _
    rw [spec_l3Ins.l0, if_pos (by omega), if_pos (by omega), rdb_at _ _ hil, if_pos (show Op.bytesLess l[i].toList key.toList = true from c), if_pos (by rw [zW]; omega), hw, List.take_add_one, List.getElem?_eq_getElem hil]
    rfl
   ·have e : i = cntLt key l := by
     have : ¬ i < cntLt key l := fun h => c (hat.2 h)
     omega
    refine Ev.step (fun K => ?_) hend
    show spec_l3Ins.l0 (K + 1) key (l.take i) (i : Int) b l [] = _
    rw [spec_l3Ins.l0, if_pos (by omega), if_pos (by omega), rdb_at _ _ hil, if_neg (show ¬ Op.bytesLess l[i].toList key.toList = true from c), e]
theorem ins_ev (key : ByteArray) : ∀ (d : Nat) (r : Bool) (t : S56), goodD d r t → srt (keysD d t) → d ≤ 19 → Ev (fun k => spec_l3Ins.f k t.f0 t.f1 t.f2 key) (insD key d t)
 | 0, r, t, hg, hs, hd => by
   have h := ins0_loop key true (l := t.f1) hs hg.2.2.1 t.f1.length 0 (by omega) (Nat.zero_le _)
   refine Ev.step (fun K => ?_) h
   show spec_l3Ins.f (K + 1) t.f0 t.f1 t.f2 key = _
   rw [spec_l3Ins.f, hg.1, hg.2.1, if_pos rfl]
   rfl
 | d + 1, r, t, hg, hs, hd => by
   have h2 := hg.2.2.1
   have h4 := hg.2.2.2.1
   have hat := chI_lt (d := d) (key := key) (ks := t.f2) (by omega)
   have hge : goodD d false t.f2[chI d key t.f2] := hg.2.2.2.2 _ (List.getElem_mem hat)
   have ih := ins_ev key d false t.f2[chI d key t.f2] hge (srt_kid (show srt ((t.f2.map (keysD d)).flatten) from hs) (List.getElem_mem hat)) (by omega)
   have hlen : (insD key d t.f2[chI d key t.f2]).length ≤ 2 := by
    rcases ins_good key d false _ hge with ⟨x, e, _⟩ | ⟨x, y, e, _, _⟩ <;> rw [e] <;> simp
   have hw : wrap64 (((chI d key t.f2 : Nat) : Int) + 1) = ((chI d key t.f2 + 1 : Nat) : Int) := by unfold wrap64; omega
   have hl1 : (t.f2.take (chI d key t.f2)).length = chI d key t.f2 := by rw [zW]; omega
   have hl3 : (t.f2.drop (chI d key t.f2 + 1)).length = t.f2.length - (chI d key t.f2 + 1) := zX
   have hsp := sins_splitS d (t.f2.take (chI d key t.f2) ++ insD key d t.f2[chI d key t.f2] ++ t.f2.drop (chI d key t.f2 + 1)) (by rw [List.length_append, List.length_append, hl1, hl3]; omega)
   refine Ev.step (f := fun k => (spec_l3Child.f k t.f0 t.f1 t.f2 key).bind fun t399 => ((some (([] : List (S56)) : List (S56))).bind fun y400 => (if 0 ≤ t399 then (if t399 ≤ (t.f2.length : Int) then ((some (t.f2.take (t399 : Int).toNat : List (S56))).bind fun y403 => (if y400.length + y403.length < 2513169434916 then ((some (y400 ++ y403 : List (S56))).bind fun y408 => (if t399 < (t.f2.length : Int) then ((spec_l3Ins.f k ((rd_T56 t.f2 t399).f0) ((rd_T56 t.f2 t399).f1) ((rd_T56 t.f2 t399).f2) key).bind fun t412 => (if y408.length + t412.length < 2513169434916 then ((some (y408 ++ t412 : List (S56))).bind fun y415 => (if 0 ≤ (wrap64 (t399 + 1)) then (if (wrap64 (t399 + 1)) ≤ (t.f2.length : Int) then ((some (t.f2.drop ((wrap64 (t399 + 1)) : Int).toNat : List (S56))).bind fun y418 => (if y415.length + y418.length < 2513169434916 then ((spec_l3Split.f false ([] : List ByteArray) (y415 ++ y418)).bind fun t426 => (some t426)) else (none))) else (none)) else (none))) else (none))) else (none))) else (none))) else (none)) else (none)))) (fun K => ?_) (Ev.bind (child_ev key hg hs (by omega) t.f0 t.f1) ?_)
   ·show spec_l3Ins.f (K + 1) t.f0 t.f1 t.f2 key = _
    rw [spec_l3Ins.f, if_neg (by rw [hg.1]; decide)]
   ·refine Ev.congr (f := fun k => (spec_l3Ins.f k (t.f2[chI d key t.f2]).f0 (t.f2[chI d key t.f2]).f1 (t.f2[chI d key t.f2]).f2 key).bind fun t412 => (if (t.f2.take (chI d key t.f2)).length + t412.length < 2513169434916 then (if (t.f2.take (chI d key t.f2) ++ t412).length + (t.f2.drop (chI d key t.f2 + 1)).length < 2513169434916 then spec_l3Split.f false ([] : List ByteArray) (t.f2.take (chI d key t.f2) ++ t412 ++ t.f2.drop (chI d key t.f2 + 1)) else none) else none)) (fun k => ?_) (Ev.bind ih ?_)
    ·simp only [Option.bind_some, List.nil_append, List.length_nil, Int.toNat_natCast, hw]
     rw [if_pos (by omega), if_pos (by omega), if_pos (by rw [hl1]; omega), if_pos (by omega), rd56_at _ _ hat]
     congr 1
     funext q
     rw [if_pos (show (0 : Int) ≤ ((chI d key t.f2 + 1 : Nat) : Int) by omega), if_pos (show ((chI d key t.f2 + 1 : Nat) : Int) ≤ (t.f2.length : Int) by omega)]
     simp
    ·refine Ev.congr (f := fun _ => some (insD key (d + 1) t)) (fun k => ?_) (Ev.now _)
     rw [if_pos (by rw [hl1]; omega), if_pos (by rw [List.length_append, hl1, hl3]; omega), hsp]
     unfold insD
     rw [rd56_at _ _ hat]
     cases d <;> rfl
def hasK (key : ByteArray) (l : List ByteArray) : Bool := l.any (fun x => decide (x = key))
theorem hasK_iff {key : ByteArray} {l : List ByteArray} : hasK key l = true ↔ key ∈ l := by
 unfold hasK
 rw [List.any_eq_true]
 exact ⟨fun ⟨x, h, e⟩ => zI e ▸ h, fun h => ⟨key, h, zJ rfl⟩⟩
theorem holds_loop (key : ByteArray) (l : List ByteArray) (hl : l.length ≤ 1000000000) : ∀ (m i : Nat), i + m = l.length → Ev (fun k => spec_l3Holds.l0 k l key (i : Int)) (hasK key (l.drop i))
 | 0, i, h => by
   have e : l.drop i = [] := List.drop_of_length_le (by omega)
   rw [e]
   refine Ev.step (f := fun _ => some false) (fun K => ?_) (Ev.now _)
   show spec_l3Holds.l0 (K + 1) l key (i : Int) = _
   rw [spec_l3Holds.l0, if_neg (by omega)]
 | m + 1, i, h => by
   have hil : i < l.length := by omega
   have hw : wrap64 ((i : Int) + 1) = ((i + 1 : Nat) : Int) := by unfold wrap64; omega
   have ih := holds_loop key l hl m (i + 1) (by omega)
   rw [List.drop_eq_getElem_cons hil]
   have e0 : hasK key (l[i] :: l.drop (i + 1)) = (decide (l[i] = key) || hasK key (l.drop (i + 1))) := rfl
   rw [e0]
   by_cases c : l[i] = key
   ·rw [zJ c, Bool.true_or]
    refine Ev.step (f := fun _ => some true) (fun K => ?_) (Ev.now _)
    show spec_l3Holds.l0 (K + 1) l key (i : Int) = _
    rw [spec_l3Holds.l0, if_pos (by omega), if_pos (by omega), rdb_at _ _ hil, if_pos (by rw [c])]
   ·rw [zK c, Bool.false_or]
    refine Ev.step (fun K => ?_) ih
    show spec_l3Holds.l0 (K + 1) l key (i : Int) = _
    rw [spec_l3Holds.l0, if_pos (by omega), if_pos (by omega), rdb_at _ _ hil, if_neg (fun e => c (bs_inj e)), hw]
theorem holds_ev (key : ByteArray) (l : List ByteArray) (hl : l.length ≤ 1000000000) : Ev (fun k => spec_l3Holds.f k l key) (hasK key l) := holds_loop key l hl l.length 0 (by omega)
theorem copy_loop (ns : List S90) (hl : ns.length ≤ 1048576) (hn : ∀ x ∈ ns, x.f1.length ≤ 1048576 ∧ x.f2.length ≤ 1048576) : ∀ (m i : Nat), i + m = ns.length → Ev (fun k => spec_l3Copy.l0 k (i : Int) ns (ns.take i)) ns
 | 0, i, h => by
   have e : ns.take i = ns := List.take_of_length_le (by omega)
   refine Ev.step (f := fun _ => some ns) (fun K => ?_) (Ev.now _)
   show spec_l3Copy.l0 (K + 1) (i : Int) ns (ns.take i) = _
   rw [spec_l3Copy.l0, if_neg (by omega), e]
 | m + 1, i, h => by
   have hil : i < ns.length := by omega
   have hw : wrap64 ((i : Int) + 1) = ((i + 1 : Nat) : Int) := by unfold wrap64; omega
   have hx := hn _ (List.getElem_mem hil)
   refine Ev.step (fun K => ?_) (copy_loop ns hl hn m (i + 1) (by omega))
   show spec_l3Copy.l0 (K + 1) (i : Int) ns (ns.take i) = _
   rw [spec_l3Copy.l0, if_pos (by omega), if_pos (by omega), rd90_at _ _ hil]
   simp only [Option.bind_some, List.nil_append, List.length_nil]
   rw [if_pos (by omega), if_pos (by omega), if_pos (by rw [zW]; omega), hw, List.take_add_one, List.getElem?_eq_getElem hil]
   rfl
theorem copy_ev (ns : List S90) (hl : ns.length ≤ 1048576) (hn : ∀ x ∈ ns, x.f1.length ≤ 1048576 ∧ x.f2.length ≤ 1048576) : Ev (fun k => spec_l3Copy.f k ns) ns := copy_loop ns hl hn ns.length 0 (by omega)

/-! ### L_zw_has: a text by hand -/
-- plain: is a key in the tree; slices.BinarySearch's answer in full
def foundB (key : ByteArray) (l : List ByteArray) : Bool := match l[cntLt key l]? with
 | none => false
 | some x => decide (x.toList = key.toList)
theorem bs_loop2 {l : List ByteArray} (hs : srt l) (hl : l.length ≤ 1048576) (key : ByteArray) : ∀ (m i j : Nat), j - i ≤ m → i ≤ cntLt key l → cntLt key l ≤ j → j ≤ l.length → Ev (fun k => slices_BinarySearch_string_string.l0 k l key (l.length : Int) (i : Int) (j : Int)) ((cntLt key l : Int), foundB key l) := by
 intro m
 induction m with
 | zero =>
   intro i j hm h1 h2 h3
   have e : i = cntLt key l := by omega
   have e2 : j = cntLt key l := by omega
   unfold foundB
   by_cases c : i < l.length
   ·rw [← e, List.getElem?_eq_getElem c]
    refine Ev.step (f := fun _ => some ((i : Int), decide (l[i].toList = key.toList))) (fun k => ?_) (Ev.now _)
    show slices_BinarySearch_string_string.l0 (k + 1) l key (l.length : Int) (i : Int) (j : Int) = _
    rw [slices_BinarySearch_string_string.l0, if_neg (by omega), if_pos (by omega), if_pos (by omega), if_pos (by omega), rdb_at _ _ c, nan_f]
    by_cases c2 : l[i].toList = key.toList
    ·rw [if_pos c2, zJ c2]
    ·rw [if_neg c2, zK c2]
     rfl
   ·rw [← e, List.getElem?_eq_none (by omega)]
    refine Ev.step (f := fun _ => some ((i : Int), false)) (fun k => ?_) (Ev.now _)
    show slices_BinarySearch_string_string.l0 (k + 1) l key (l.length : Int) (i : Int) (j : Int) = _
    rw [slices_BinarySearch_string_string.l0, if_neg (by omega), if_neg (by omega)]
 | succ m ih =>
   intro i j hm h1 h2 h3
   by_cases c : i < j
   ·have hh : wrap64 ((IntKind.u64.wrap (wrap64 ((i : Int) + (j : Int)))) / 2) = (((i + j) / 2 : Nat) : Int) := by
     have e1 : wrap64 ((i : Int) + (j : Int)) = ((i + j : Nat) : Int) := by unfold wrap64; omega
     have e2 : IntKind.u64.wrap ((i + j : Nat) : Int) = ((i + j : Nat) : Int) := by unfold IntKind.wrap; simp [IntKind.min, IntKind.max, IntKind.bits, IntKind.signed]; omega
     rw [e1, e2]
     unfold wrap64
     omega
    have hlt : (i + j) / 2 < l.length := by omega
    have hw : wrap64 ((((i + j) / 2 : Nat) : Int) + 1) = (((i + j) / 2 + 1 : Nat) : Int) := by unfold wrap64; omega
    by_cases c2 : lt l[(i + j) / 2] key = true
    ·have h4 := (cnt_at hs hlt).1 c2
     refine Ev.step (fun k => ?_) (ih ((i + j) / 2 + 1) j (by omega) (by omega) h2 h3)
     show slices_BinarySearch_string_string.l0 (k + 1) l key (l.length : Int) (i : Int) (j : Int) = _
     rw [slices_BinarySearch_string_string.l0, if_pos (by omega), hh, if_pos (by omega), if_pos (by omega), rdb_at _ _ hlt, less_f, hw]
     simp only [Option.bind_some]
     rw [if_pos c2]
    ·have h4 : ¬ (i + j) / 2 < cntLt key l := fun h => c2 ((cnt_at hs hlt).2 h)
     refine Ev.step (fun k => ?_) (ih i ((i + j) / 2) (by omega) h1 (by omega) (by omega))
     show slices_BinarySearch_string_string.l0 (k + 1) l key (l.length : Int) (i : Int) (j : Int) = _
     rw [slices_BinarySearch_string_string.l0, if_pos (by omega), hh, if_pos (by omega), if_pos (by omega), rdb_at _ _ hlt, less_f]
     simp only [Option.bind_some]
     rw [if_neg c2]
   ·exact ih i j (by omega) h1 h2 h3
theorem found_has {l : List ByteArray} (hs : srt l) (key : ByteArray) : foundB key l = hasK key l := by
 rw [Bool.eq_iff_iff, hasK_iff]
 unfold foundB
 constructor
 ·intro h
  split at h
  ·cases h
  ·next x hx =>
   have := bs_inj (zI h)
   rw [← this]
   exact List.mem_of_getElem? hx
 ·intro h
  obtain ⟨i, hi, rfl⟩ := List.getElem_of_mem h
  have h1 : ¬ i < cntLt l[i] l := fun h => by have := (cnt_at hs hi).2 h; rw [lt_irrefl] at this; cases this
  have h2 : ¬ cntLt l[i] l < i := fun h => by
   have h3 : lt (l[cntLt l[i] l]'(by omega)) l[i] = true := List.pairwise_iff_getElem.1 hs _ _ (by omega) hi h
   have := (cnt_at hs (by omega)).1 h3
   omega
  have e : cntLt l[i] l = i := by omega
  rw [e, List.getElem?_eq_getElem hi]
  exact zJ rfl
theorem bs_ev2 {l : List ByteArray} (hs : srt l) (hl : l.length ≤ 1048576) (key : ByteArray) : Ev (fun k => slices_BinarySearch_string_string.f k l key) ((cntLt key l : Int), hasK key l) := by
 rw [← found_has hs key]
 exact bs_loop2 hs hl key l.length 0 l.length (by omega) (by omega) (cnt_le _ _) (zY _)
theorem has_split {d : Nat} {key : ByteArray} {ks : List S56} (h0 : 0 < ks.length) (hg : ∀ k ∈ ks, goodD d false k) (hs : srt ((ks.map (keysD d)).flatten)) :
  hasK key ((ks.map (keysD d)).flatten) = hasK key (keysD d (ks[chI d key ks]'(chI_lt h0))) := by
 rw [Bool.eq_iff_iff, hasK_iff, hasK_iff, List.mem_flatten]
 have hal := chI_lt (d := d) (key := key) h0
 constructor
 ·rintro ⟨q, hq, hk⟩
  obtain ⟨x, hx, rfl⟩ := List.mem_map.1 hq
  obtain ⟨j, hj, rfl⟩ := List.getElem_of_mem hx
  have hp := (List.pairwise_flatten.1 hs).2
  rw [List.pairwise_map] at hp
  rcases Nat.lt_trichotomy j (chI d key ks) with c | c | c
  ·have h1 := List.pairwise_iff_getElem.1 hp j _ hj hal c _ hk _ (headK_mem (hg _ (List.getElem_mem hal)))
   have h2 := (chI_iff (key := key) hg hs (i := chI d key ks) (by omega) hal).2 (zY _)
   have := leB_lt h1 h2
   rw [lt_irrefl] at this
   cases this
  ·simp only [← c]
   exact hk
  ·have h2 : leB (headK d ks[j]) key = false := by
    cases hh : leB (headK d ks[j]) key with
    | false => rfl
    | true => have := (chI_iff (key := key) hg hs (i := j) (by omega) hj).1 hh; omega
   have h3 := leB_not h2
   rcases headK_le (hg _ (List.getElem_mem hj)) (srt_kid hs (List.getElem_mem hj)) hk with h4 | h4
   ·rw [← h4, lt_irrefl] at h3; cases h3
   ·have := lt_trans h3 h4
    rw [lt_irrefl] at this
    cases this
 ·intro hk
  exact ⟨_, List.mem_map_of_mem (List.getElem_mem hal), hk⟩

/-! ### L_zx_row: a text by hand -/
-- a row of one-cell elements as a block: its cells, then spare ones
structure RB (w : World) (e base g cap : Nat) (xs tail : List Value) : Prop where
 blk : w.heap[g]? = some (.cells (xs ++ tail).toArray e (0, 0))
 bas : base ≤ g
 hcap : cap = xs.length + tail.length
 hmax : cap ≤ maxLen
 one : ∀ u ∈ xs, u.oneCell' = true
theorem RB.cells {w : World} {e base g cap : Nat} {xs tail : List Value} (h : RB w e base g cap xs tail) : ∀ j v, xs[j]? = some v → w.cell? ⟨g, 0 + j, none⟩ = some v := fun j v hv => by
 rw [Nat.zero_add]
 refine (blk_cell h.blk j).trans ?_
 rw [List.getElem?_toArray, List.getElem?_append_left (List.getElem?_eq_some_iff.1 hv).1, hv]
theorem RB.isS {w : World} {e base g cap : Nat} {xs tail : List Value} (h : RB w e base g cap xs tail) : ∀ j, j < cap → (w.cell? ⟨g, 0 + j, none⟩).isSome = true := fun j hj => by
 rw [Nat.zero_add, (blk_cell h.blk j), List.getElem?_toArray, List.getElem?_eq_getElem (by rw [List.length_append, ← h.hcap]; exact hj)]
 rfl
theorem RB.frozen {w : World} {e base g cap : Nat} {xs tail : List Value} (h : RB w e base g cap xs tail) (j : Nat) : w.frozen? ⟨g, j, none⟩ = false := zG h.blk j
theorem RB.toOwn {w : World} {e base g cap : Nat} {xs tail : List Value} (h : RB w e base g cap xs tail) : w.ownsRow base e 1 (.slice (some ⟨g, 0, none⟩) xs.length cap) xs.length xs :=
 ⟨by rw [Nat.mul_one], .inr ⟨g, cap, _, rfl, h.bas, h.blk, by rw [h.hcap]; omega, h.hmax, by rw [h.hcap]; simp, by rw [Nat.mul_one, List.take_left' rfl]⟩⟩
theorem RB_of_own {w : World} {e base n : Nat} {v : Value} {inner : List Value} (h : w.ownsRow base e 1 v n inner) (hl : inner.length = n) (hone : ∀ u ∈ inner, u.oneCell' = true) : (v = .slice none 0 0 ∧ inner = []) ∨ ∃ g cap tail, v = .slice (some ⟨g, 0, none⟩) n cap ∧ RB w e base g cap inner tail := by
 rcases h.2 with ⟨hv, hn⟩ | ⟨g, cap, cur, hv, hb, hh, hnc, hcm, hcs, htk⟩
 ·refine Or.inl ⟨hv, ?_⟩
  have : inner.length = 0 := by omega
  exact List.length_eq_zero_iff.1 this
 ·have e1 : inner = cur.toList.take n := by have := htk; rw [Nat.mul_one] at this; exact this.symm
  have hcs' : cur.size = cap := by rw [hcs, Nat.mul_one]
  refine Or.inr ⟨g, cap, cur.toList.drop n, hv, ⟨?_, hb, ?_, hcm, hone⟩⟩
  ·rw [e1, List.take_append_drop]; exact hh
  ·have h3 : (cur.toList.drop n).length = cap - n := by rw [zX, Array.length_toList, hcs']
   rw [h3, hl]
   omega
theorem heap_setCells_at {g t : Nat} : ∀ (vs : List Value) (w : World) (pre mid post : List Value), w.heap[g]? = some (.cells (pre ++ mid ++ post).toArray t (0, 0)) → mid.length = vs.length → (w.setCells g pre.length vs).heap[g]? = some (.cells (pre ++ vs ++ post).toArray t (0, 0))
 | [], w, pre, mid, post, h, hl => by
   have : mid = [] := List.length_eq_zero_iff.1 hl
   subst this
   exact h
 | v :: vs, w, pre, mid, post, h, hl => by
   cases mid with
   | nil => simp at hl
   | cons m mid =>
     have h1 : (w.setCell ⟨g, pre.length, none⟩ v).heap[g]? = some (.cells ((pre ++ [v]) ++ mid ++ post).toArray t (0, 0)) := by
      refine blk_put h pre.length v ?_
      rw [zN]
      congr 1
      rw [List.append_assoc, List.set_append_right _ _ (zY _)]
      simp
     have h2 := heap_setCells_at vs (w.setCell ⟨g, pre.length, none⟩ v) (pre ++ [v]) mid post h1 (by simpa using hl)
     rw [List.length_append] at h2
     have e : (w.setCells g pre.length (v :: vs)) = (w.setCell ⟨g, pre.length, none⟩ v).setCells g (pre.length + 1) vs := rfl
     rw [e]
     simpa using h2
theorem heap_setCells_other {g k : Nat} (hk : k ≠ g) : ∀ (vs : List Value) (o : Nat) (w : World), (w.setCells g o vs).heap[k]? = w.heap[k]?
 | [], _, _ => rfl
 | v :: vs, o, w => by
   have e : (w.setCells g o (v :: vs)) = (w.setCell ⟨g, o, none⟩ v).setCells g (o + 1) vs := rfl
   rw [e, heap_setCells_other hk vs (o + 1)]
   exact Below.heap_setCell w ⟨g, o, none⟩ v k hk
theorem below_setCells {B g : Nat} {w0 : World} (hg : B ≤ g) : ∀ (vs : List Value) (o : Nat) (w : World), Below B w0 w → Below B w0 (w.setCells g o vs)
 | [], _, _, h => h
 | v :: vs, o, w, h => by
   have e : (w.setCells g o (v :: vs)) = (w.setCell ⟨g, o, none⟩ v).setCells g (o + 1) vs := rfl
   rw [e]
   exact below_setCells hg vs (o + 1) _ (h.setCell hg v)
/-- strings -/
theorem RB_of_str {w : World} {base : Nat} {ok : Nat → Prop} {v : Value} {l : List ByteArray} (h : Kd.R Kd.string 9 w base ok v l) : (v = .slice none 0 0 ∧ l = []) ∨ ∃ g cap tail, v = .slice (some ⟨g, 0, none⟩) l.length cap ∧ RB w 9 base g cap (l.map Value.string) tail := by
 have ho := Kd.own_of_R h
 have e1 : encs Value.string l = l.map Value.string := by simp [encs]
 rw [e1] at ho
 rcases RB_of_own ho (by simp) (by simp [Value.oneCell']) with ⟨hv, hn⟩ | ⟨g, cap, tail, hv, hr⟩
 ·exact Or.inl ⟨hv, by simpa using hn⟩
 ·exact Or.inr ⟨g, cap, tail, hv, hr⟩
theorem RB.str {w : World} {base g cap : Nat} {tail : List Value} {l : List ByteArray} (h : RB w 9 base g cap (l.map Value.string) tail) : Kd.R Kd.string 9 w base (fun _ => True) (.slice (some ⟨g, 0, none⟩) l.length cap) l := by
 have ho := h.toOwn
 refine Kd.R_of_own (enc := Value.string) ?_ (fun _ _ => trivial)
 rw [show encs Value.string l = l.map Value.string by simp [encs]]
 simpa using ho
theorem RB.raw {w : World} {e base g cap : Nat} {xs tail : List Value} (h : RB w e base g cap xs tail) : (Kd.raw 1).R e w base (fun _ => True) (.slice (some ⟨g, 0, none⟩) xs.length cap) (xs.map (fun u => [u])) := by
 refine ⟨fun _ _ => trivial, xs, by rw [List.length_map]; exact h.toOwn, by rw [List.length_map]; exact (Nat.mul_one _).symm, fun j p hj => ?_⟩
 rw [List.getElem?_map, Option.map_eq_some_iff] at hj
 obtain ⟨u, hu, rfl⟩ := hj
 have e1 : (xs.drop (j * (Kd.raw 1).sz)).take (Kd.raw 1).sz = [u] := by
  show (xs.drop (j * 1)).take 1 = [u]
  obtain ⟨hjl, rfl⟩ := List.getElem?_eq_some_iff.1 hu
  rw [Nat.mul_one, List.drop_eq_getElem_cons hjl]
  rfl
 show _ = _ ∧ _
 rw [e1]
 exact ⟨rfl, rfl, fun v hv => by rw [List.mem_singleton.1 hv]; exact h.one u (List.mem_of_getElem? hu)⟩
theorem RB_of_raw {w : World} {e base : Nat} {ok : Nat → Prop} {v : Value} {us : List Value} (h : (Kd.raw 1).R e w base ok v (us.map (fun u => [u]))) : (v = .slice none 0 0 ∧ us = []) ∨ ∃ g cap tail, v = .slice (some ⟨g, 0, none⟩) us.length cap ∧ RB w e base g cap us tail := by
 obtain ⟨_, inner, ho, hl, hr⟩ := h
 rw [List.length_map] at ho hl
 replace hl : inner.length = us.length := hl.trans (Nat.mul_one _)
 have hin : inner = us := by
  apply List.ext_getElem?
  intro j
  by_cases hj : j < us.length
  ·have h1 := hr j [us[j]] (by rw [List.getElem?_map, List.getElem?_eq_getElem hj]; rfl)
   have h2 : (inner.drop (j * 1)).take 1 = [us[j]] := h1.1
   have hj2 : j < inner.length := by rw [hl]; omega
   rw [Nat.mul_one, List.drop_eq_getElem_cons hj2] at h2
   rw [List.getElem?_eq_getElem hj, List.getElem?_eq_getElem hj2]
   injection h2 with h2
   rw [h2]
  ·rw [List.getElem?_eq_none (by omega), List.getElem?_eq_none (by omega)]
 have hone : ∀ u ∈ us, u.oneCell' = true := by
  intro u hu
  obtain ⟨j, hj, rfl⟩ := List.getElem_of_mem hu
  have h1 := hr j [us[j]] (by rw [List.getElem?_map, List.getElem?_eq_getElem hj]; rfl)
  have h2 : (inner.drop (j * 1)).take 1 = [us[j]] := h1.1
  have h3 : ∀ q ∈ (inner.drop (j * 1)).take 1, q.oneCell' = true := h1.2.2
  rw [h2] at h3
  exact h3 _ (by simp)
 rw [hin] at ho
 exact RB_of_own ho rfl hone
theorem RB_of_raw1 {w : World} {e base n : Nat} {ok : Nat → Prop} {v : Value} {us : List Value} (h : (Kd.raw 1).R e w base ok v (us.map (fun u => [u]))) (hn : us.length = n) (hp : 0 < n) : ∃ g cap tail, v = .slice (some ⟨g, 0, none⟩) n cap ∧ RB w e base g cap us tail := by
 rcases RB_of_raw h with ⟨_, e2⟩ | ⟨g, cap, tail, hv, hr⟩
 ·rw [e2] at hn; simp at hn; omega
 ·exact ⟨g, cap, tail, by rw [← hn]; exact hv, hr⟩

/-! ### laws_markTNodeS: a text by hand -/
-- uses blk_cells3
def laws_markTNodeS.l0 : Nat → List (S90) → Int → Int → Option (Int × List (S90))
 | 0, _, _, _ => none
 | k + 1, x0, x1, x5 => if x5 < (x0.length : Int) then (if 0 ≤ x5 then ((laws_markStringS.f k (rd_T90 x0 x5).f1 (wrap64 (x1 + 1))).bind fun b => (laws_markInt64S.f k (rd_T90 x0 x5).f2 b.1).bind fun c => laws_markTNodeS.l0 k (x0.set (x5 : Int).toNat (⟨decide (Int.tmod x1 3 = 0), b.2, c.2, c.1⟩ : S90)) (wrap64 (c.1 + 1)) (wrap64 (x5 + 1))) else none) else some (x1, x0)
def laws_markTNodeS.f (k : Nat) (l0 : List (S90)) (a1 : Int) : Option (Int × List (S90)) := laws_markTNodeS.l0 k l0 a1 0
/-- Element i of an owned row of nodes, lent. -/
structure El (W : World) (base : Nat) (ok : Nat → Prop) (g n cap : Nat) (xs : List S90) (i : Int) (oki : Nat → Prop) (b0 : Bool) (v1 v2 : Value) (c3 : Int) (l1 : List ByteArray) (l2 : List Int) : Prop where
 h : Kd.H k90 90 W base ok (.slice (some ⟨g, 0, none⟩) n cap) xs i oki [.bool b0, v1, v2, .int .i64 c3]
 k : ∀ k, oki k → ok k ∧ k ≠ g
 g1 : Kd.R Kd.string 9 W base oki v1 l1
 g2 : Kd.R (Kd.int .i64) 2 W base oki v2 l2
section
variable {W W1 : World} {base g n cap : Nat} {ok oki : Nat → Prop} {xs : List S90} {i : Int} {b0 : Bool} {v1 v2 : Value} {c3 : Int} {l1 : List ByteArray} {l2 : List Int}
theorem El_open (h : Kd.S k90 90 W base ok (.slice (some ⟨g, 0, none⟩) n cap) xs) (h0 : 0 ≤ i) (h1 : i < n) : ∃ oki v1 v2, El W base ok g n cap xs i oki (rd_T90 xs i).f0 v1 v2 (rd_T90 xs i).f3 (rd_T90 xs i).f1 (rd_T90 xs i).f2 := by
 obtain ⟨oki, c, hcl, hM, hcc, _, hoki, hH⟩ := Kd.S_elem h z90 i h0 h1
 obtain ⟨v1, v2, rfl, g1, g2⟩ := k90_openM hM
 exact ⟨oki, v1, v2, hH, hoki, g1, g2⟩
theorem El.cells (h : El W base ok g n cap xs i oki b0 v1 v2 c3 l1 l2) (h0 : 0 ≤ i) (h1 : i < n) : W.cell? ⟨g, i.toNat * 4, none⟩ = some (.bool b0) ∧ W.cell? ⟨g, i.toNat * 4 + 1, none⟩ = some v1 ∧ W.cell? ⟨g, i.toNat * 4 + 2, none⟩ = some v2 ∧ W.cell? ⟨g, i.toNat * 4 + 3, none⟩ = some (.int .i64 c3) ∧ ∀ j, W.frozen? ⟨g, j, none⟩ = false := by
 obtain ⟨rows, hl, hraw, hcl, hco, hcc, _⟩ := Kd.H_raw h.h h0 h1
 have hn : (n : Nat) = rows.length := (Kd.R_reads' hraw).1
 obtain ⟨g', cap', e, _, _, cells, hb⟩ := Kd.R_form hraw (by omega)
 injection e with e1 e2 e3
 injection e1 with e1
 injection e1 with e1
 subst e1
 exact ⟨hcc 0 _ rfl, hcc 1 _ rfl, hcc 2 _ rfl, hcc 3 _ rfl, fun j => zG hb j⟩
theorem El.set0 (h : El W base ok g n cap xs i oki b0 v1 v2 c3 l1 l2) (h0 : 0 ≤ i) (h1 : i < n) (b : Bool) : El (W.setCell ⟨g, i.toNat * 4, none⟩ (.bool b)) base ok g n cap xs i oki b v1 v2 c3 l1 l2 ∧ W.grownBy (W.setCell ⟨g, i.toNat * 4, none⟩ (.bool b)) (some g) := by
 obtain ⟨h2, h3⟩ := Kd.H_seg h.h h0 h1 (seg := [.bool b]) (j := 0) (show 1 ≤ 4 by decide) (fun q hq => by simp at hq; subst hq; rfl)
 exact ⟨⟨h2, h.k, Kd.R_grown h.g1 h3 (fun k hk he => (h.k k hk).2 (by injection he)), Kd.R_grown h.g2 h3 (fun k hk he => (h.k k hk).2 (by injection he))⟩, h3⟩
theorem El.set3 (h : El W base ok g n cap xs i oki b0 v1 v2 c3 l1 l2) (h0 : 0 ≤ i) (h1 : i < n) (c : Int) : El (W.setCell ⟨g, i.toNat * 4 + 3, none⟩ (.int .i64 c)) base ok g n cap xs i oki b0 v1 v2 c l1 l2 ∧ W.grownBy (W.setCell ⟨g, i.toNat * 4 + 3, none⟩ (.int .i64 c)) (some g) := by
 obtain ⟨h2, h3⟩ := Kd.H_seg h.h h0 h1 (seg := [.int .i64 c]) (j := 3) (show 4 ≤ 4 by decide) (fun q hq => by simp at hq; subst hq; rfl)
 exact ⟨⟨h2, h.k, Kd.R_grown h.g1 h3 (fun k hk he => (h.k k hk).2 (by injection he)), Kd.R_grown h.g2 h3 (fun k hk he => (h.k k hk).2 (by injection he))⟩, h3⟩
theorem El.put1 (h : El W base ok g n cap xs i oki b0 v1 v2 c3 l1 l2) {l1' : List ByteArray} {ok' : Nat → Prop} (hR : Kd.R Kd.string 9 W1 base ok' v1 l1') (hk : Kept W W1 (fun k => some k = v1.ownBlock)) : El W1 base ok g n cap xs i oki b0 v1 v2 c3 l1' l2 :=
 ⟨Kd.H_step h.h (fun k _ hn hlt => hk.2 k hlt (fun he => hn (h.g1.1 k he.symm))), h.k, Kd.R_reok rfl hR (fun k hk => h.g1.1 k hk), Kd.R_drop (Kd.R_step (Kd.R_apartR h.g2 h.g1 (by decide)) (fun k hk' hlt => hk.2 k hlt hk'.2))⟩
theorem El.put2 (h : El W base ok g n cap xs i oki b0 v1 v2 c3 l1 l2) {l2' : List Int} {ok' : Nat → Prop} (hR : Kd.R (Kd.int .i64) 2 W1 base ok' v2 l2') (hk : Kept W W1 (fun k => some k = v2.ownBlock)) : El W1 base ok g n cap xs i oki b0 v1 v2 c3 l1 l2' :=
 ⟨Kd.H_step h.h (fun k _ hn hlt => hk.2 k hlt (fun he => hn (h.g2.1 k he.symm))), h.k, Kd.R_drop (Kd.R_step (Kd.R_apartR h.g1 h.g2 (by decide)) (fun k hk' hlt => hk.2 k hlt hk'.2)), Kd.R_reok rfl hR (fun k hk => h.g2.1 k hk)⟩
theorem El.close (h : El W base ok g n cap xs i oki b0 v1 v2 c3 l1 l2) : Kd.S k90 90 W base ok (.slice (some ⟨g, 0, none⟩) n cap) (xs.set i.toNat ⟨b0, l1, l2, c3⟩) :=
 Kd.H_back h.h (k90_mkM W base oki ⟨b0, l1, l2, c3⟩ h.g1 h.g2) (fun _ hk => hk)
end
set_option maxHeartbeats 8000000 in
set_option maxRecDepth 100000 in
theorem laws_markTNodeS.calls (k : Nat) (P0_ : Nat → Prop) (u9000_ : Value) (l0 : List (S90)) (a1 : Int) (r1 : Int) (r2 : List (S90)) (w0 w : World) (hB : Below w0.heap.size w0 w) (ho0 : Kd.S k90 90 w w0.heap.size P0_ u9000_ l0) (h : laws_markTNodeS.f k l0 a1 = some (r1, r2)) :
  Calls Try.prog 41 #[u9000_, .int .i64 a1] w fun e w' => e = .returned (.int .i64 r1) ∧ Kd.S k90 90 w' w0.heap.size (fun k_ => (P0_ k_ ∨ w.heap.size ≤ k_)) u9000_ r2 ∧ Below w0.heap.size w0 w' ∧ Kept w w' (fun k_ => P0_ k_) := by
 have HO0 := zA (show Kd.S k90 90 w w0.heap.size (fun k_ => (P0_ k_ ∨ w.heap.size ≤ k_)) u9000_ l0 from yB ho0 (fun k_ hk => (.inl hk)))
 have HK := zA (Kept.refl w (fun k_ => P0_ k_))
 have HB := zA hB
 have H' := zA (show laws_markTNodeS.l0 k l0 a1 0 = some (r1, r2) from h)
 clear h hB ho0
 go_enter Try.func41, Try.ntmps41
 go_wp2
 go_loopg [1, 5] k (fun kq v1 v5 w' => ∃ (x0_1 : List (S90)) (x1_1 : Int) (x5_1 : Int), v1 = .int .i64 x1_1 ∧ v5 = .int .i64 x5_1 ∧ Aside0 (laws_markTNodeS.l0 kq x0_1 x1_1 x5_1 = some (r1, r2)) ∧ Aside0 (kq ≤ k) ∧ Aside0 (Kd.S k90 90 w' w0.heap.size (fun k_ => (P0_ k_ ∨ w.heap.size ≤ k_)) u9000_ x0_1) ∧ Aside0 (Kept w w' (fun k_ => P0_ k_)) ∧ Aside0 (Below w0.heap.size w0 w'))
 case atStart => exact ⟨l0, a1, 0, rfl, rfl, H', ⟨zY _⟩, HO0, HK, HB⟩
 case round =>
  clear H' HO0 HK HB
  obtain ⟨xs, m, i, rfl, rfl, HA, HK1, HO, HK, HB⟩ := hrel
  cases gk with
  | zero => exact absurd HA.out (by simp [laws_markTNodeS.l0])
  | succ k1 =>
    have H := HA.out
    clear HA
    simp only [laws_markTNodeS.l0] at H
    obtain ⟨Ao, co, eo⟩ := Kd.S_slice HO.out
    subst eo
    by_cases c3 : i < (xs.length : Int)
    ·rw [if_pos c3] at H
     by_cases c4 : 0 ≤ i
     ·rw [if_pos c4] at H
      replace H := Option.bind_eq_some_iff.mp H
      obtain ⟨⟨b1, b2⟩, HM0, H⟩ := H
      replace H := Option.bind_eq_some_iff.mp H
      obtain ⟨⟨d1, d2⟩, HN0, H⟩ := H
      simp only at HN0 H
      have HM := zA HM0
      have HN := zA HN0
      have H' := zA H
      clear H HM0 HN0
      obtain ⟨g, cap, eg, gb, gl, cells, hbl⟩ := Kd.S_form HO.out (by omega)
      injection eg with ea _ ec
      subst ea
      subst ec
      clear hbl cells
      obtain ⟨oki, v1, v2, hel⟩ := El_open HO.out c4 c3
      obtain ⟨x0, x1, x2, x3, fz⟩ := hel.cells c4 c3
      have f0 := fz (i.toNat * 4)
      have HG := zA (And.intro gb (show P0_ g ∨ w.heap.size ≤ g from (Kd.S_R HO.out).1 _ rfl))
      obtain ⟨hel2, hgr⟩ := hel.set0 c4 c3 (decide (Int.tmod m 3 = 0))
      have HS0 := zA (And.intro hel2 hgr)
      have HC := zA (And.intro c4 c3)
      have c3b0 : decide (i < (xs.length : Int)) = true := zJ c3
      have p5 := eq_true c4
      have q5 := eq_true c3
      clear hel hel2 hgr fz gb gl c3 c4 x1 x2 x3
      go_wp2_with (first | ((with_reducible refine gate_store (t := 4) (p := 18) rfl ?_); refine store_event (t := 4) (p := 18) (v := ?vo_w8) (w1 := (wr.setCell ⟨g, (i : Int).toNat * 4, none⟩ (.bool (decide (Int.tmod m 3 = 0))))) ?hg ?ho ?hn ?hr ?_; (case ho => rfl); (case hg => rfl); (case hn => rfl); (case hr => first | (go_simp; done) | (go_simp; rfl)); intro w8 hw; have HE := zA (hw ▸ HS0.out.1); have HB8 := zA (show Below w0.heap.size w0 w8 by rw [hw]; exact below_set HB.out HG.out.1); have HK8 := zA (show Kept w w8 (fun k_ => P0_ k_) by rw [hw]; exact Kept.of_grown HS0.out.2 HK.out (fun k_ e_ => by injection e_ with e_; subst e_; exact HG.out.2)); clear HS0 HB HK hw x0 f0; obtain ⟨x0, x1, x2, x3, fz⟩ := HE.out.cells HC.out.1 HC.out.2; clear x0 x2 x3 fz))
      refine (laws_markStringS.calls k1 (fun k_ => some k_ = v1.ownBlock) v1 _ _ b1 b2 w0 w8 HB8.out (Kd.R_tight rfl HE.out.g1) HM.out).mono ?_
      rintro e w9 ⟨rfl, hR, hB9, hK9⟩
      have HE9 := zA (HE.out.put1 hR hK9)
      have HB9 := zA hB9
      have HK9 := zA (HK8.out.then_ hK9 (fun k_ e_ => (HE.out.k k_ (HE.out.g1.1 k_ e_.symm)).1))
      obtain ⟨x0, x1, x2, x3, fz⟩ := HE9.out.cells HC.out.1 HC.out.2
      clear hR hB9 hK9 HE HB8 HK8 x0 x1 x3 fz
      go_wp2_with fail
      refine (laws_markInt64S.calls k1 (fun k_ => some k_ = v2.ownBlock) v2 _ _ d1 d2 w0 w9 HB9.out (Kd.R_tight rfl HE9.out.g2) HN.out).mono ?_
      rintro e w10 ⟨rfl, hR, hB10, hK10⟩
      have HE10 := zA (HE9.out.put2 hR hK10)
      have HB10 := zA hB10
      have HK10 := zA (HK9.out.then_ hK10 (fun k_ e_ => (HE9.out.k k_ (HE9.out.g2.1 k_ e_.symm)).1))
      obtain ⟨x0, x1, x2, x3, fz⟩ := HE10.out.cells HC.out.1 HC.out.2
      have f3 := fz (i.toNat * 4 + 3)
      obtain ⟨hs3, hg3⟩ := HE10.out.set3 HC.out.1 HC.out.2 d1
      have HO11 := zA hs3.close
      have HB11 := zA (below_set HB10.out HG.out.1 : Below w0.heap.size w0 (w10.setCell ⟨g, (i : Int).toNat * 4 + 3, none⟩ (.int .i64 d1)))
      have HK11 := zA (Kept.of_grown (S := fun k_ => P0_ k_) hg3 HK10.out (fun k_ e_ => by injection e_ with e_; subst e_; exact HG.out.2))
      clear hR hB10 hK10 HE9 HB9 HK9 x0 x1 x2 fz hs3 hg3
      go_wp2_with fail
      go_roundg k1
      case measure => have := HK1.out; omega
      case rel => exact ⟨_, _, _, rfl, rfl, H', ⟨by have := HK1.out; omega⟩, by simpa using HO11, HK11, HB11⟩
     ·rw [if_neg c4] at H
      exact absurd H (by simp)
    ·rw [if_neg c3] at H
     have c3b0 : decide (i < (xs.length : Int)) = false := zK c3
     clear c3
     simp only [Option.some.injEq, Prod.mk.injEq] at H
     obtain ⟨rfl, rfl⟩ := H
     go_wp2
     go_ret
     exact ⟨rfl, HO.out, HB.out, HK.out⟩

/-! ### mk_tree: a text by hand -/
-- the marks of a tree and of a row of strings, and what is held
theorem laws_markStringS.own (k lo hi : Nat) (v : Value) (l : List ByteArray) (m0 m1 : Int) (l' : List ByteArray) (w0 w : World) {ok : Nat → Prop} (hle : w0.heap.size ≤ lo) (hB : Below w0.heap.size w0 w)
   (ho : Kd.R Kd.string 9 w w0.heap.size (fun k => (lo ≤ k ∧ k < hi) ∧ ok k) v l) (h : laws_markStringS.f k l m0 = some (m1, l')) :
   Calls Try.prog 24 #[v, .int .i64 m0] w fun e w' => e = .returned (.int .i64 m1) ∧ Kd.R Kd.string 9 w' w0.heap.size (fun k => (lo ≤ k ∧ k < hi) ∧ ok k) v l' ∧ Below w0.heap.size w0 w' ∧ Kept w w' (fun k => lo ≤ k ∧ k < hi) :=
 (laws_markStringS.calls k (fun k => (lo ≤ k ∧ k < hi) ∧ ok k) v l m0 m1 l' w0 w hB ho h).mono fun e w' hh => ⟨hh.1, Kd.R_reok rfl hh.2.1 (fun k hk => ho.1 k hk), hh.2.2.1, hh.2.2.2.mono (fun k hk => hk.1)⟩
set_option maxHeartbeats 1000000 in
set_option maxRecDepth 100000 in
theorem laws_markTree.own (k lo hi : Nat) (v : Value) (l : List S90) (m0 m1 : Int) (l' : List S90) (w0 w : World) {ok : Nat → Prop} (hle : w0.heap.size ≤ lo) (hB : Below w0.heap.size w0 w)
  (ho : Kd.S k90 90 w w0.heap.size (fun k => (lo ≤ k ∧ k < hi) ∧ ok k) v l) (h : laws_markTNodeS.f k l m0 = some (m1, l')) :
  Calls Try.prog 13 #[.agg #[v], .int .i64 m0] w fun e w' => e = .returned (.int .i64 m1) ∧ Kd.S k90 90 w' w0.heap.size (fun k => ((lo ≤ k ∧ k < hi) ∧ ok k) ∨ w.heap.size ≤ k) v l' ∧ Below w0.heap.size w0 w' ∧ Kept w w' (fun k => lo ≤ k ∧ k < hi) := by
 have H1 := zA h
 have HB := zA hB
 have HO := zA ho
 clear h hB ho
 have hu := Try.underlying24
 obtain ⟨A0, c0, rfl⟩ := Kd.S_slice HO.out
 go_enter Try.func13, Try.ntmps13
 go_wp2_with fail
 have hS := yB (ok' := fun k => ((lo ≤ k ∧ k < hi) ∧ ok k) ∧ k < w.heap.size) (Kd.S_bound HO.out) (fun k hk => ⟨hk.1, hk.2.2.1⟩)
 refine (laws_markTNodeS.calls k (fun k => ((lo ≤ k ∧ k < hi) ∧ ok k) ∧ k < w.heap.size) _ _ _ m1 l' w0 _ (below_allocB HB.out HB.out.size _) (Kd.S_alloc hS _) H1.out).mono ?_
 rintro e w1 ⟨rfl, hS1, hB1, hK1⟩
 have n1 := zA (yB (ok' := fun k => ((lo ≤ k ∧ k < hi) ∧ ok k) ∨ w.heap.size ≤ k) hS1 (fun k hk => hk.imp (fun h => h.1) (fun h => by simp at h; omega)))
 have n2 := zA hB1
 have n3 := zA (show Kept w w1 (fun k => lo ≤ k ∧ k < hi) from (Kept.alloc (Kept.refl w _) _).then_ hK1 (fun k hk => .inl hk.1.1))
 clear hS hS1 hB1 hK1
 go_wp2
 go_ret
 exact ⟨rfl, n1.out, n2.out, n3.out⟩
theorem one_size (x : Int) : (strOfNums [x]).size = 1 := by unfold strOfNums; rfl
theorem markText_loop : ∀ (n : Nat) (x0 : Int) (x3 : ByteArray), 0 ≤ x0 → x0 < 10 ^ n → n ≤ 15 → x3.size + n ≤ 1000 → ∃ t, Ev (fun k => laws_markText.l0 k x0 x3) t
 | 0, x0, x3, h0, h1, hn, hs => ⟨_, Ev.step (f := fun _ => some ((⟨#[109]⟩ : ByteArray) ++ x3)) (fun K => by simp only [laws_markText.l0]; rw [if_neg (by simp at h1; omega), if_pos (by omega)]) (Ev.now _)⟩
 | n + 1, x0, x3, h0, h1, hn, hs => by
   by_cases c : x0 > 0
   ·have hd : Int.tdiv x0 10 = x0 / 10 := Int.tdiv_eq_ediv_of_nonneg h0
    have hp : (10 : Int) ^ (n + 1) = 10 ^ n * 10 := Int.pow_succ 10 n
    have hb : (10 : Int) ^ n ≤ 10 ^ 14 := by
     have : n ≤ 14 := by omega
     exact_mod_cast Nat.pow_le_pow_right (by decide) this
    have hlt : x0 / 10 < 10 ^ n := by omega
    have hw : wrap64 (x0 / 10) = x0 / 10 := by
     have : (10 : Int) ^ 14 = 100000000000000 := by decide
     unfold wrap64; omega
    obtain ⟨t, ht⟩ := markText_loop n (x0 / 10) (strOfNums [(wrap64 (48 + (Int.tmod x0 10))) % 256] ++ x3) (by omega) hlt (by omega) (by rw [ByteArray.size_append, one_size]; omega)
    exact ⟨t, Ev.step (fun K => by simp only [laws_markText.l0]; rw [if_pos c, Option.bind_some, if_pos (by rw [one_size]; omega), hd, hw]) ht⟩
   ·exact ⟨_, Ev.step (f := fun _ => some ((⟨#[109]⟩ : ByteArray) ++ x3)) (fun K => by simp only [laws_markText.l0]; rw [if_neg c, if_pos (by omega)]) (Ev.now _)⟩
theorem markText_ex (a : Int) (h0 : 0 ≤ a) (h1 : a < 1000000000000000) : ∃ t, Ev (fun k => laws_markText.f k a) t := by
 unfold laws_markText.f
 by_cases c : a ≤ 0
 ·exact ⟨_, Ev.congr (fun K => by rw [if_pos c]) (Ev.now _)⟩
 ·have e : (10 : Int) ^ 15 = 1000000000000000 := by decide
  obtain ⟨t, ht⟩ := markText_loop 15 a ⟨#[]⟩ h0 (by omega) (by omega) (by decide)
  exact ⟨t, Ev.congr (fun K => by rw [if_neg c]) ht⟩
open Classical in
noncomputable def mkTx (a : Int) : ByteArray := if h : ∃ t, Ev (fun k => laws_markText.f k a) t then h.choose else ⟨#[]⟩
theorem mkTx_ev (a : Int) (h0 : 0 ≤ a) (h1 : a < 1000000000000000) : Ev (fun k => laws_markText.f k a) (mkTx a) := by
 unfold mkTx
 have h := markText_ex a h0 h1
 rw [dif_pos h]
 exact h.choose_spec
noncomputable def mkS : Int → List ByteArray → List ByteArray
 | _, [] => []
 | a, _ :: r => mkTx a :: mkS (a + 1) r
def mkI : Int → List Int → List Int
 | _, [] => []
 | a, _ :: r => a :: mkI (a + 1) r
noncomputable def mkT : Int → List S90 → Int × List S90
 | a, [] => (a, [])
 | a, x :: r => ((mkT (a + 2 + x.f1.length + x.f2.length) r).1, ⟨decide (Int.tmod a 3 = 0), mkS (a + 1) x.f1, mkI (a + 1 + x.f1.length) x.f2, a + 1 + x.f1.length + x.f2.length⟩ :: (mkT (a + 2 + x.f1.length + x.f2.length) r).2)
theorem set_midT {α : Type} (pre : List α) (x y : α) (rest : List α) : (pre ++ x :: rest).set (pre.length : Int).toNat y = pre ++ y :: rest := by rw [Int.toNat_natCast, List.set_append_right _ _ (zY _)]; simp
theorem markS_loop : ∀ (rest pre : List ByteArray) (a : Int), 0 ≤ a → a + rest.length ≤ 100000000000000 → pre.length + rest.length ≤ 1000000000 → Ev (fun k => laws_markStringS.l0 k (pre ++ rest) a (pre.length : Int)) (a + rest.length, pre ++ mkS a rest)
 | [], pre, a, h0, h1, h2 => by
   have e : (a + (([] : List ByteArray).length : Int), pre ++ mkS a []) = (a, pre) := by simp [mkS]
   rw [e, List.append_nil]
   exact Ev.step (f := fun _ => some (a, pre)) (fun K => by simp only [laws_markStringS.l0]; rw [if_neg (by omega)]) (Ev.now _)
 | x :: r, pre, a, h0, h1, h2 => by
   have hl : ((x :: r).length : Int) = (r.length : Int) + 1 := by simp
   have hl2 : (x :: r).length = r.length + 1 := rfl
   rw [hl] at h1
   rw [hl2] at h2
   have ih := markS_loop r (pre ++ [mkTx a]) (a + 1) (by omega) (by omega) (by simp; omega)
   have e : (a + ((x :: r).length : Int), pre ++ mkS a (x :: r)) = (a + 1 + (r.length : Int), pre ++ [mkTx a] ++ mkS (a + 1) r) := by
    rw [hl]; simp [mkS]; omega
   rw [e]
   have w1 : wrap64 (a + 1) = a + 1 := by unfold wrap64; omega
   have w4 : wrap64 ((pre.length : Int) + 1) = ((pre ++ [mkTx a]).length : Int) := by simp; unfold wrap64; omega
   refine Ev.step (fun K => by simp only [laws_markStringS.l0]; rw [if_pos (by simp; omega)]) ?_
   refine Ev.bind (mkTx_ev a h0 (by omega)) ?_
   refine Ev.congr (fun K => by rw [if_pos (by omega), set_midT, w1, w4]) ?_
   simp only [List.append_assoc, List.singleton_append] at ih ⊢
   exact ih
theorem markS_ev (l : List ByteArray) (a : Int) (h0 : 0 ≤ a) (h1 : a + l.length ≤ 100000000000000) (h2 : l.length ≤ 1000000000) : Ev (fun k => laws_markStringS.f k l a) (a + l.length, mkS a l) := markS_loop l [] a h0 h1 (by simp; omega)
theorem heldS_loop : ∀ (rest pre : List ByteArray) (a : Int), 0 ≤ a → a + rest.length ≤ 100000000000000 → pre.length + rest.length ≤ 1000000000 → Ev (fun k => laws_heldStringS.l0 k (pre ++ mkS a rest) a (pre.length : Int)) (a + rest.length)
 | [], pre, a, h0, h1, h2 => by
   rw [show mkS a [] = [] from rfl, List.append_nil, show a + (([] : List ByteArray).length : Int) = a by simp]
   exact Ev.step (f := fun _ => some a) (fun K => by simp only [laws_heldStringS.l0]; rw [if_neg (by omega)]) (Ev.now _)
 | x :: r, pre, a, h0, h1, h2 => by
   have hl : ((x :: r).length : Int) = (r.length : Int) + 1 := by simp
   have hl2 : (x :: r).length = r.length + 1 := rfl
   rw [hl] at h1
   rw [hl2] at h2
   have ih := heldS_loop r (pre ++ [mkTx a]) (a + 1) (by omega) (by omega) (by simp; omega)
   rw [hl, show a + ((r.length : Int) + 1) = a + 1 + (r.length : Int) by omega, show mkS a (x :: r) = mkTx a :: mkS (a + 1) r from rfl]
   have w1 : wrap64 (a + 1) = a + 1 := by unfold wrap64; omega
   have w4 : wrap64 ((pre.length : Int) + 1) = ((pre ++ [mkTx a]).length : Int) := by simp; unfold wrap64; omega
   have hr : rdOf ByteArray.empty (pre ++ mkTx a :: mkS (a + 1) r) (pre.length : Int) = mkTx a := by
    rw [rdb_at _ _ (by simp)]
    simp
   refine Ev.step (fun K => by simp only [laws_heldStringS.l0]; rw [if_pos (by simp; omega), if_pos (by omega)]) ?_
   refine Ev.bind (mkTx_ev a h0 (by omega)) ?_
   refine Ev.congr (fun K => by rw [hr, if_pos rfl, w1, w4]) ?_
   rw [List.append_assoc] at ih
   exact ih
theorem heldS_ev (l : List ByteArray) (a : Int) (h0 : 0 ≤ a) (h1 : a + l.length ≤ 100000000000000) (h2 : l.length ≤ 1000000000) : Ev (fun k => laws_heldStringS.f k (mkS a l) a) (a + l.length) := heldS_loop l [] a h0 h1 (by simp; omega)
theorem markI_loop : ∀ (rest pre : List Int) (a : Int), 0 ≤ a → a + rest.length ≤ 100000000000000 → pre.length + rest.length ≤ 1000000000 → Ev (fun k => laws_markInt64S.l0 k (pre ++ rest) a (pre.length : Int)) (a + rest.length, pre ++ mkI a rest)
 | [], pre, a, h0, h1, h2 => by
   have e : (a + (([] : List Int).length : Int), pre ++ mkI a []) = (a, pre) := by simp [mkI]
   rw [e, List.append_nil]
   exact Ev.step (f := fun _ => some (a, pre)) (fun K => by simp only [laws_markInt64S.l0]; rw [if_neg (by omega)]) (Ev.now _)
 | x :: r, pre, a, h0, h1, h2 => by
   have hl : ((x :: r).length : Int) = (r.length : Int) + 1 := by simp
   have hl2 : (x :: r).length = r.length + 1 := rfl
   rw [hl] at h1
   rw [hl2] at h2
   have ih := markI_loop r (pre ++ [a]) (a + 1) (by omega) (by omega) (by simp; omega)
   have e : (a + ((x :: r).length : Int), pre ++ mkI a (x :: r)) = (a + 1 + (r.length : Int), pre ++ [a] ++ mkI (a + 1) r) := by
    rw [hl]; simp [mkI]; omega
   rw [e]
   have w1 : wrap64 (a + 1) = a + 1 := by unfold wrap64; omega
   have w4 : wrap64 ((pre.length : Int) + 1) = ((pre ++ [a]).length : Int) := by simp; unfold wrap64; omega
   refine Ev.step (fun K => by simp only [laws_markInt64S.l0]; rw [if_pos (by simp; omega), if_pos (by omega), set_midT, w1, w4]) ?_
   simp only [List.append_assoc, List.singleton_append] at ih ⊢
   exact ih
theorem markI_ev (l : List Int) (a : Int) (h0 : 0 ≤ a) (h1 : a + l.length ≤ 100000000000000) (h2 : l.length ≤ 1000000000) : Ev (fun k => laws_markInt64S.f k l a) (a + l.length, mkI a l) := markI_loop l [] a h0 h1 (by simp; omega)
theorem mkT_bd : ∀ (l : List S90), (∀ x ∈ l, x.f1.length ≤ 1048576 ∧ x.f2.length ≤ 1048576) → ∀ a : Int, a ≤ (mkT a l).1 ∧ (mkT a l).1 ≤ a + 2097154 * l.length
 | [], _, a => by simp [mkT]
 | x :: r, hl, a => by
   have h := mkT_bd r (fun y hy => hl y (List.mem_cons_of_mem _ hy)) (a + 2 + x.f1.length + x.f2.length)
   have hx := hl x List.mem_cons_self
   simp only [mkT, List.length_cons]
   omega
theorem markT_loop : ∀ (rest pre : List S90), (∀ x ∈ rest, x.f1.length ≤ 1048576 ∧ x.f2.length ≤ 1048576) → ∀ (a : Int), 0 ≤ a → a + 2097154 * rest.length ≤ 100000000000000 → pre.length + rest.length ≤ 1000000000 → Ev (fun k => laws_markTNodeS.l0 k (pre ++ rest) a (pre.length : Int)) ((mkT a rest).1, pre ++ (mkT a rest).2)
 | [], pre, _, a, h0, h1, h2 => by
   rw [show ((mkT a []).1, pre ++ (mkT a []).2) = (a, pre) by simp [mkT], List.append_nil]
   exact Ev.step (f := fun _ => some (a, pre)) (fun K => by simp only [laws_markTNodeS.l0]; rw [if_neg (by omega)]) (Ev.now _)
 | x :: r, pre, hl, a, h0, h1, h2 => by
   have hx := hl x List.mem_cons_self
   rw [List.length_cons] at h1 h2
   obtain ⟨y, hy⟩ : ∃ y : S90, y = ⟨decide (Int.tmod a 3 = 0), mkS (a + 1) x.f1, mkI (a + 1 + x.f1.length) x.f2, a + 1 + x.f1.length + x.f2.length⟩ := ⟨_, rfl⟩
   have ih := markT_loop r (pre ++ [y]) (fun z hz => hl z (List.mem_cons_of_mem _ hz)) (a + 2 + x.f1.length + x.f2.length) (by omega) (by omega) (by simp; omega)
   have e : ((mkT a (x :: r)).1, pre ++ (mkT a (x :: r)).2) = ((mkT (a + 2 + x.f1.length + x.f2.length) r).1, pre ++ [y] ++ (mkT (a + 2 + x.f1.length + x.f2.length) r).2) := by simp [mkT, hy]
   rw [e]
   have w1 : wrap64 (a + 1) = a + 1 := by unfold wrap64; omega
   have w2 : wrap64 (a + 1 + x.f1.length + x.f2.length + 1) = a + 2 + x.f1.length + x.f2.length := by unfold wrap64; omega
   have w4 : wrap64 ((pre.length : Int) + 1) = ((pre ++ [y]).length : Int) := by simp; unfold wrap64; omega
   have hr : rd_T90 (pre ++ x :: r) (pre.length : Int) = x := by
    rw [rd90_at _ _ (by simp)]
    simp
   refine Ev.step (fun K => by simp only [laws_markTNodeS.l0]; rw [if_pos (by simp; omega), if_pos (by omega), hr, w1]) ?_
   refine Ev.bind (markS_ev x.f1 (a + 1) (by omega) (by omega) (by omega)) ?_
   refine Ev.bind (markI_ev x.f2 (a + 1 + x.f1.length) (by omega) (by omega) (by omega)) ?_
   refine Ev.congr (fun K => by rw [set_midT, ← hy, w2, w4]) ?_
   simp only [List.append_assoc, List.singleton_append] at ih ⊢
   exact ih
theorem markT_ev (l : List S90) (hl : ∀ x ∈ l, x.f1.length ≤ 1048576 ∧ x.f2.length ≤ 1048576) (h : l.length ≤ 1048576) : Ev (fun k => laws_markTNodeS.f k l 1) ((mkT 1 l).1, (mkT 1 l).2) := markT_loop l [] hl 1 (by decide) (by omega) (by simp; omega)

/-! ### zs_nest: a text by hand -/
-- uses results_three blk_cells3
-- import Derived.Laws.ResultCell
-- import Derived.StillTailTactics
set_option maxHeartbeats 4000000 in
set_option maxRecDepth 100000 in
theorem l3Nest_bad {A : Option Addr} {n c : Nat} {i dep : Int} {W : World} (hb : i < 0 ∨ (n : Int) ≤ i ∨ 20 < dep) :
  Calls Try.prog 66 #[.slice A n c, .int .i64 i, .int .i64 dep] W fun e W' => e = .returned (.tuple #[.agg #[.bool false, .slice none 0 0, .slice none 0 0], .int .i64 i, .bool false]) ∧ Below W.heap.size W W' := by
 have hb0 : Below W.heap.size W (W.alloc (.cells #[.bool false, .slice none 0 0, .slice none 0 0] 56)) := below_alloc (zZ _ _) _
 have K6 := zA (blk_new W (.cells #[.bool false, .slice none 0 0, .slice none 0 0] 56))
 have HB := zA hb0
 have hu56 := Try.underlying56
 clear hb0
 go_enter Try.func66, Try.ntmps66
 go_upto_region 1 with (fail)
 generalize (W.alloc (.cells #[.bool false, .slice none 0 0, .slice none 0 0] 56)) = W0 at *
 obtain ⟨m0, hm0⟩ : ∃ m0, m0 = W.heap.size := ⟨_, rfl⟩
 rw [← hm0] at K6 HB ⊢
 have HN := zA hm0
 clear hm0
 obtain ⟨x0, x1, x2, u0, u1, u2⟩ := blk_cells3 K6.out
 obtain ⟨g1, hg⟩ : ∃ b, b = decide (i < 0) := ⟨_, rfl⟩
 obtain ⟨g2, hg2⟩ : ∃ b, b = decide ((n : Int) ≤ i) := ⟨_, rfl⟩
 obtain ⟨g3, hg3⟩ : ∃ b, b = decide (20 < dep) := ⟨_, rfl⟩
 have hx : g1 = true ∨ (g1 = false ∧ g2 = true) ∨ (g1 = false ∧ g2 = false ∧ g3 = true) := by
  subst hg hg2 hg3
  simp only [decide_eq_true_eq, decide_eq_false_iff_not]
  omega
 rcases hx with rfl | ⟨rfl, rfl⟩ | ⟨rfl, rfl, rfl⟩
 all_goals
  replace hg := hg.symm
  replace hg2 := hg2.symm
  replace hg3 := hg3.symm
  clear hb
  go_wp2_with fail
  refine bodyPost_ret (results_three rfl _ _ m0 56 _ (0, 0) _ rfl (blk_set3 K6.out) hu56 rfl (by kernel_rfl)) rfl ?_
  rw [← HN.out]
  exact ⟨rfl, below_set3 HB.out (zY _) _ _ _⟩

theorem FK_nilT (W : World) (ok : Nat → Prop) (b : Bool) : Kd.FK k56 W ok ⟨b, [], []⟩ [.bool b, .slice none 0 0, .slice none 0 0] :=
 k56_mkF W ok ⟨b, [], []⟩ (A1 := none) (c1 := 0) (zY _) (Kd.F_nil _ _ _) (A2 := none) (c2 := 0) (zY _) (Kd.F_nil _ _ _)
theorem nestL_cons (rec : Int → S56 × Int × Bool) (b : Bool) (k : Int) (ks : List Int) (next : Int) (acc : List S56) : nestL rec b (k :: ks) next acc = if k = next then (if (rec next).2.2 = true then nestL rec b ks (rec next).2.1 (acc ++ [(rec next).1]) else (⟨false, [], acc⟩, next, false)) else (⟨false, [], acc⟩, next, false) := rfl
theorem nest_end {n0 m0 : Nat} {r : S56 × Int × Bool} {acc : List S56} {nx : Int} {b : Bool} {W w' : World} {A3 : Option Addr} {c3 : Nat} (hr : r = (⟨false, [], acc⟩, nx, b)) (lo : n0 ≤ m0) (hN : Kd.N k56 56 w' (m0 + 3) (fun k => k < n0 ∨ m0 + 3 ≤ k) (.slice A3 acc.length c3) acc) (hB : Below m0 W w') (hm : m0 = W.heap.size) :
  ∃ v1 v2, Ending.returned (.tuple #[.agg #[.bool false, .slice none 0 0, .slice A3 acc.length c3], .int .i64 nx, .bool b]) = .returned (.tuple #[.agg #[.bool r.1.f0, v1, v2], .int .i64 r.2.1, .bool r.2.2]) ∧ Kd.FK k56 (((w'.setCell ⟨m0, 0, none⟩ (.bool false)).setCell ⟨m0, 1, none⟩ (.slice none 0 0)).setCell ⟨m0, 2, none⟩ (.slice A3 acc.length c3)) (fun k => k < n0 ∨ W.heap.size ≤ k) r.1 [.bool r.1.f0, v1, v2] ∧ Below W.heap.size W (((w'.setCell ⟨m0, 0, none⟩ (.bool false)).setCell ⟨m0, 1, none⟩ (.slice none 0 0)).setCell ⟨m0, 2, none⟩ (.slice A3 acc.length c3)) := by
 subst hr
 subst hm
 refine ⟨_, _, rfl, ?_, below_set3 hB (zY _) _ _ _⟩
 have h1 := Kd.N_reads' hN
 have h2 : Kd.F k56 (((w'.setCell ⟨W.heap.size, 0, none⟩ (.bool false)).setCell ⟨W.heap.size, 1, none⟩ (.slice none 0 0)).setCell ⟨W.heap.size, 2, none⟩ (.slice A3 acc.length c3)) (fun k => k < n0 ∨ W.heap.size ≤ k) A3 acc.length acc :=
  Kd.F_mono (Kd.F_step (Kd.N_F hN) (fun k hk _ => set3_other _ _ _ (by omega))) (fun k hk => by omega)
 exact k56_mkF _ _ ⟨false, [], acc⟩ (A1 := none) (c1 := 0) (zY _) (Kd.F_nil _ _ _) h1.2.1 h2
theorem FK_dr {α : Type} {d : Kd α} {W : World} {ok : Nat → Prop} {x : α} {cs : List Value} (h : Kd.FK d W ok x cs) : Kd.FK d W.drew ok x cs := Foot.step h (fun k _ hlt => (below_drew (zZ W.heap.size W)).block k hlt)
theorem nest_end2 {n0 m0 : Nat} {r : S56 × Int × Bool} {acc : List S56} {nx : Int} {b : Bool} {W w' : World} {A3 : Option Addr} {c3 : Nat} (hr : r = (⟨false, [], acc⟩, nx, b)) (lo : n0 ≤ m0) (hN : Kd.N k56 56 w' (m0 + 3) (fun k => k < n0 ∨ m0 + 3 ≤ k) (.slice A3 acc.length c3) acc) (hB : Below m0 W w') (hm : m0 = W.heap.size) :
  ∃ v1 v2, Ending.returned (.tuple #[.agg #[.bool false, .slice none 0 0, .slice A3 acc.length c3], .int .i64 nx, .bool b]) = .returned (.tuple #[.agg #[.bool r.1.f0, v1, v2], .int .i64 r.2.1, .bool r.2.2]) ∧ Kd.FK k56 (((w'.setCell ⟨m0, 0, none⟩ (.bool false)).setCell ⟨m0, 1, none⟩ (.slice none 0 0)).setCell ⟨m0, 2, none⟩ (.slice A3 acc.length c3)).drew (fun k => k < n0 ∨ W.heap.size ≤ k) r.1 [.bool r.1.f0, v1, v2] ∧ Below W.heap.size W (((w'.setCell ⟨m0, 0, none⟩ (.bool false)).setCell ⟨m0, 1, none⟩ (.slice none 0 0)).setCell ⟨m0, 2, none⟩ (.slice A3 acc.length c3)).drew := by
 obtain ⟨v1, v2, h1, h2, h3⟩ := nest_end hr lo hN hB hm
 exact ⟨v1, v2, h1, FK_dr h2, zC h3⟩
set_option maxHeartbeats 8000000 in
set_option maxRecDepth 100000 in
theorem l3Nest_any (n0 : Nat) (ns : List S90) (hl : ns.length ≤ 1048576) (hk2 : ∀ i, (rd_T90 ns i).f2.length ≤ 1048576) : ∀ (d : Nat) (dep : Int) (_ : dep + d = 21) (_ : 0 ≤ dep) (i : Int) (A : Option Addr) (c : Nat) (W : World) (_ : Kd.F k90 W (fun k => k < n0) A ns.length ns) (_ : n0 ≤ W.heap.size),
   Calls Try.prog 66 #[.slice A ns.length c, .int .i64 i, .int .i64 dep] W fun e W' => ∃ v1 v2, e = .returned (.tuple #[.agg #[.bool (nestD ns d i).1.f0, v1, v2], .int .i64 (nestD ns d i).2.1, .bool (nestD ns d i).2.2]) ∧ Kd.FK k56 W' (fun k => k < n0 ∨ W.heap.size ≤ k) (nestD ns d i).1 [.bool (nestD ns d i).1.f0, v1, v2] ∧ Below W.heap.size W W' := by
 intro d
 induction d with
 | zero =>
   intro dep hd h0 i A c W hF hn
   refine (l3Nest_bad (Or.inr (Or.inr (by omega)))).mono ?_
   rintro e W' ⟨rfl, hb⟩
   exact ⟨_, _, rfl, FK_nilT _ _ _, hb⟩
 | succ d ih =>
   intro dep hd h0 i A c W hF hn
   by_cases hin : 0 ≤ i ∧ i < (ns.length : Int)
   case neg =>
    refine (l3Nest_bad (n := ns.length) (by omega)).mono ?_
    rintro e W' ⟨rfl, hb⟩
    rw [show nestD ns (d + 1) i = (z56, i, false) by unfold nestD; rw [if_neg hin]]
    exact ⟨_, _, rfl, FK_nilT _ _ _, hb⟩
   obtain ⟨p0, p1⟩ := hin
   obtain ⟨r, hr⟩ : ∃ r, r = nestD ns (d + 1) i := ⟨_, rfl⟩
   have hr2 := hr
   unfold nestD at hr2
   rw [if_pos ⟨p0, p1⟩] at hr2
   rw [← hr]
   clear hr
   obtain ⟨nd, hnd⟩ : ∃ nd, nd = rd_T90 ns i := ⟨_, rfl⟩
   rw [← hnd] at hr2
   have HK2 := zA (show nd.f2.length ≤ 1048576 by rw [hnd]; exact hk2 i)
   have HR := zA hr2
   have hb0 : Below W.heap.size W (W.alloc (.cells #[.bool false, .slice none 0 0, .slice none 0 0] 56)) := below_alloc (zZ _ _) _
   have K6 := zA (blk_new W (.cells #[.bool false, .slice none 0 0, .slice none 0 0] 56))
   have HZ := zA (show (W.alloc (.cells #[.bool false, .slice none 0 0, .slice none 0 0] 56)).heap.size = W.heap.size + 1 by simp)
   have HF := zA (yF hF hb0)
   have HB := zA hb0
   have HP := zA (And.intro hd (And.intro h0 (And.intro p0 (And.intro p1 hl))))
   have HN0 := zA hn
   have IH := zA ih
   have hu56 := Try.underlying56
   have hu90 := Try.underlying90
   clear hr2 hb0 ih hF
   go_enter Try.func66, Try.ntmps66
   go_upto_region 1 with (fail)
   generalize (W.alloc (.cells #[.bool false, .slice none 0 0, .slice none 0 0] 56)) = W0 at *
   obtain ⟨m0, hm0⟩ : ∃ m0, m0 = W.heap.size := ⟨_, rfl⟩
   rw [← hm0] at K6 HB HZ HN0 ⊢
   have HN := zA hm0
   clear hm0
   have g1 : decide (i < 0) = false := zK (by omega)
   have g2 : decide ((ns.length : Int) ≤ i) = false := zK (by omega)
   have g3 : decide (20 < dep) = false := zK (by omega)
   obtain ⟨ad, A1, c1, A2, c2, rfl, x0, x1, x2, x3, l1, f1, l2, f2⟩ := at_F90 HF.out i p0 p1
   have p0b : decide (0 ≤ i) = true := zJ p0
   have p1b : decide (i < (ns.length : Int)) = true := zJ p1
   rw [← hnd] at x0 x1 x2 x3 l1 f1 l2 f2
   have FA := zA f1
   have FB := zA f2
   have HL := zA (And.intro l1 l2)
   clear l1 f1 l2 f2 hnd hl hd h0 hn
   go_upto_region 4 with (fail)
   have hb1 := below_alloc (zZ _ W0) (.cells #[.bool nd.f0, .slice A1 nd.f1.length c1, .slice A2 nd.f2.length c2, .int .i64 nd.f3] 90)
   have K9 := zA (blk_new W0 (.cells #[.bool nd.f0, .slice A1 nd.f1.length c1, .slice A2 nd.f2.length c2, .int .i64 nd.f3] 90))
   have HZ1 := zA (show (W0.alloc (.cells #[.bool nd.f0, .slice A1 nd.f1.length c1, .slice A2 nd.f2.length c2, .int .i64 nd.f3] 90)).heap.size = m0 + 2 by simp [HZ.out])
   rw [HZ.out] at K9 ⊢
   replace K6 := zA (zH K6.out hb1)
   replace HF := zA (yF HF.out hb1)
   replace FA := zA (yF FA.out hb1)
   replace FB := zA (yF FB.out hb1)
   replace HB := zA (below_lo HB.out hb1 (by rw [HZ.out]; omega))
   generalize (W0.alloc (.cells #[.bool nd.f0, .slice A1 nd.f1.length c1, .slice A2 nd.f2.length c2, .int .i64 nd.f3] 90)) = W1 at *
   clear hb1 x0 x1 x2 x3 HZ
   obtain ⟨x0, x1, x2, x3, w0, w1, w2, w3⟩ := blk_cells4 K9.out
   go_upto_region 5 with (fail)
   have hb1 := below_alloc (zZ _ W1) (.cells #[.bool nd.f0, .slice none 0 0, .slice none 0 0] 56)
   have K10 := zA (blk_new W1 (.cells #[.bool nd.f0, .slice none 0 0, .slice none 0 0] 56))
   have HZ2 := zA (show (W1.alloc (.cells #[.bool nd.f0, .slice none 0 0, .slice none 0 0] 56)).heap.size = m0 + 3 by simp [HZ1.out])
   rw [HZ1.out] at K10 ⊢
   replace K6 := zA (zH K6.out hb1)
   replace K9 := zA (zH K9.out hb1)
   replace HF := zA (yF HF.out hb1)
   replace FA := zA (yF FA.out hb1)
   replace FB := zA (yF FB.out hb1)
   replace HB := zA (below_lo HB.out hb1 (by rw [HZ1.out]; omega))
   generalize (W1.alloc (.cells #[.bool nd.f0, .slice none 0 0, .slice none 0 0] 56)) = W2 at *
   clear hb1 x0 x1 x2 x3 w0 w1 w2 w3 HZ1
   obtain ⟨x0, x1, x2, x3, w0, w1, w2, w3⟩ := blk_cells4 K9.out
   obtain ⟨z0, z1, z2, u0, u1, u2⟩ := blk_cells3 K10.out
   obtain ⟨y0, y1, y2, v0, v1, v2⟩ := blk_cells3 K6.out
   have HW1 := zA (show wrap64 (i + 1) = i + 1 by have := HP.out; unfold wrap64; omega)
   rcases hf : nd.f0 with _ | _
   case true =>
    rw [hf] at x0 z0
    have hrr := HR.out
    rw [if_pos hf] at hrr
    subst hrr
    go_wp2_with fail
    replace K6 := zA (blk_far K6.out (p := ⟨m0 + 2, 1, none⟩) (by simp) (.slice A1 nd.f1.length c1))
    replace K9 := zA (blk_far K9.out (p := ⟨m0 + 2, 1, none⟩) (by simp) (.slice A1 nd.f1.length c1))
    replace K10 := zA (show (W2.setCell ⟨m0 + 2, 1, none⟩ (.slice A1 nd.f1.length c1)).heap[m0 + 2]? = some (.cells #[.bool true, .slice A1 nd.f1.length c1, .slice none 0 0] 56 (0, 0)) by rw [← hf]; exact blk_put K10.out 1 _ rfl)
    replace FA := zA (Kd.F_far FA.out (p := ⟨m0 + 2, 1, none⟩) (fun k hk => by have := HN0.out; show k ≠ m0 + 2; omega) (.slice A1 nd.f1.length c1))
    replace HB := zA (show Below m0 W (W2.setCell ⟨m0 + 2, 1, none⟩ (.slice A1 nd.f1.length c1)) from HB.out.setCell (by show m0 ≤ m0 + 2; omega) _)
    clear HF FB IH
    generalize (W2.setCell ⟨m0 + 2, 1, none⟩ (.slice A1 nd.f1.length c1)) = W3 at *
    clear x0 x1 x2 x3 w0 w1 w2 w3 z0 z1 z2 u0 u1 u2 y0 y1 y2 v0 v1 v2
    obtain ⟨x0, x1, x2, x3, w0, w1, w2, w3⟩ := blk_cells4 K9.out
    obtain ⟨z0, z1, z2, u0, u1, u2⟩ := blk_cells3 K10.out
    obtain ⟨y0, y1, y2, v0, v1, v2⟩ := blk_cells3 K6.out
    go_region
    go_wp2_with fail
    try rw [HW1.out]
    refine bodyPost_ret (results_three rfl _ _ m0 56 _ (0, 0) _ rfl (blk_set3 K6.out) hu56 rfl (by kernel_rfl)) rfl ?_
    refine ⟨.slice A1 nd.f1.length c1, .slice none 0 0, ?_, ?_, ?_⟩
    rotate_left
    ·refine FK_dr (k56_mkF _ _ ⟨true, nd.f1, []⟩ HL.out.1 ?_ (A2 := none) (c2 := 0) (zY _) (Kd.F_nil _ _ _))
     exact Kd.F_mono (Kd.F_step FA.out (fun k hk _ => set3_other _ _ _ (by have := HN0.out; omega))) (fun k hk => Or.inl hk)
    ·rw [← HN.out]
     exact zC (below_set3 HB.out (zY _) _ _ _)
    ·rw [show decide (nd.f2 = []) = ((nd.f2.length : Int) == 0) by rw [Bool.eq_iff_iff]; simp]
     rfl
   case false =>
    rw [hf] at x0 z0
    have hrr := HR.out
    rw [if_neg (by rw [hf]; decide)] at hrr
    replace K10 := zA (show W2.heap[m0 + 2]? = some (.cells #[.bool false, .slice none 0 0, .slice none 0 ([] : List S56).length] 56 (0, 0)) by rw [← hf]; exact K10.out)
    have HQ := zA hrr
    have HLF := zA (Kd.F_max FB.out)
    have HBm := zA (zZ (m0 + 2) W2)
    have HNK := zA (Kd.N_nil k56 56 W2 (m0 + 3) (fun k => k < n0 ∨ m0 + 3 ≤ k))
    clear hrr hf
    go_wp2_with fail
    rw [HW1.out]
    clear x0 x1 x2 x3 w0 w1 w2 w3 z0 z1 z2 u0 u1 u2 y0 y1 y2 v0 v1 v2
    go_loopg [11, 12] nd.f2.length (fun kq v11 v12 w' => ∃ (j : Nat) (nx : Int) (acc : List S56) (A3 : Option Addr) (c3 : Nat), v12 = .int .i64 (j : Int) ∧ v11 = .int .i64 nx ∧ Aside0 (j ≤ nd.f2.length ∧ nd.f2.length ≤ kq + j ∧ acc.length = j) ∧ Aside0 (r = nestL (nestD ns d) (decide (0 < nd.f2.length)) (nd.f2.drop j) nx acc) ∧ Aside0 (w'.heap[m0 + 2]? = some (.cells #[.bool false, .slice none 0 0, .slice A3 acc.length c3] 56 (0, 0))) ∧ Aside0 (Kd.N k56 56 w' (m0 + 3) (fun k => k < n0 ∨ m0 + 3 ≤ k) (.slice A3 acc.length c3) acc) ∧ Aside0 (Below (m0 + 2) W2 w'))
    case atStart => exact ⟨0, i + 1, [], none, 0, rfl, rfl, ⟨by omega, by omega, rfl⟩, HQ, K10, HNK, HBm⟩
    case round =>
     clear K10 HNK HBm HQ
     obtain ⟨j, nx, acc, A3, c3, rfl, rfl, HI, HQ, K10, HNK, HBm⟩ := hrel
     replace K6 := zA ((HBm.out.block m0 (by omega)).trans K6.out)
     replace K9 := zA ((HBm.out.block (m0 + 1) (by omega)).trans K9.out)
     replace HF := zA (Kd.F_step HF.out (fun k hk _ => HBm.out.block k (by have := HN0.out; omega)))
     replace FB := zA (Kd.F_step FB.out (fun k hk _ => HBm.out.block k (by have := HN0.out; omega)))
     have HZ := zA (show m0 + 3 ≤ wr.heap.size by rw [← HZ2.out]; exact HBm.out.size)
     replace HB := zA (below_same HB.out (below_less HBm.out (by omega)))
     clear HZ2 FA
     obtain ⟨x0, x1, x2, x3, w0, w1, w2, w3⟩ := blk_cells4 K9.out
     obtain ⟨z0, z1, z2, u0, u1, u2⟩ := blk_cells3 K10.out
     obtain ⟨y0, y1, y2, v0, v1, v2⟩ := blk_cells3 K6.out
     by_cases cj : j < nd.f2.length
     ·have cjb : decide (j < nd.f2.length) = true := zJ cj
      have hx := Kd.at_int (Kd.F_now FB.out) (j : Int) (by omega) (by omega)
      obtain ⟨ad2, rfl, hx⟩ := hx
      simp only [Int.toNat_natCast] at hx
      have p5 : (0 ≤ (j : Int)) = True := eq_true (by omega)
      have q5 : ((j : Int) < (nd.f2.length : Int)) = True := eq_true (by omega)
      have CJ := zA cj
      clear cj
      by_cases ck : rd nd.f2 (j : Int) = nx
      ·have ckb : (rd nd.f2 (j : Int) != nx) = false := by simp [ck]
       go_wp2_with fail
       rw [show wrap64 (dep + 1) = dep + 1 by have := HP.out; unfold wrap64; omega]
       refine (IH.out (dep + 1) (by have := HP.out; omega) (by have := HP.out; omega) nx (some ad) c wr HF.out (by have := HN0.out; have := HZ.out; omega)).mono ?_
       obtain ⟨q, hq⟩ : ∃ q, q = nestD ns d nx := ⟨_, rfl⟩
       have HQ2 := zA hq
       rw [← hq]
       rintro e W5 ⟨p1, p2, rfl, hK, hb⟩
       clear hq
       obtain ⟨kid, after, okk⟩ := q
       simp only at hK
       obtain ⟨A5, c5, A6, c6, he, _, _, _, _⟩ := k56_openF hK
       simp only [List.cons.injEq, and_true, true_and] at he
       obtain ⟨rfl, rfl⟩ := he
       have HRQ := zA (show r = if okk = true then nestL (nestD ns d) (decide (0 < nd.f2.length)) (nd.f2.drop (j + 1)) after (acc ++ [kid]) else (⟨false, [], acc⟩, nx, false) by
        rw [HQ.out, drop_rd _ _ CJ.out]
        rw [nestL_cons, if_pos ck, ← HQ2.out])
       have HOLD := HNK
       replace K6 := zA (zH K6.out hb)
       replace K9 := zA (zH K9.out hb)
       replace K10 := zA (zH K10.out hb)
       replace HF := zA (yF HF.out hb)
       replace FB := zA (yF FB.out hb)
       replace HNK := zA (Kd.N_below HNK.out hb)
       replace HB := zA (below_lo HB.out hb (by have := HZ.out; omega))
       replace HBm := zA (below_lo HBm.out hb (by have := HZ.out; omega))
       have HKK := zA (Foot.mono (ok' := fun k => (k < n0 ∨ m0 + 3 ≤ k) ∧ some k ≠ (Value.slice A3 acc.length c3).ownBlock) hK (fun k hk => ⟨by have := HZ.out; omega, fun he => by
        have h1 := Kd.N_lt HOLD.out k he.symm
        have h2 := Kd.N_base HOLD.out k he.symm
        have := HN0.out
        omega⟩))
       clear HOLD
       have hm5 : m0 + 3 ≤ W5.heap.size := yI HZ.out hb.size
       obtain ⟨g5, hg5⟩ : ∃ g5, g5 = W5.heap.size := ⟨_, rfl⟩
       clear hb hK HQ HQ2 x0 x1 x2 x3 w0 w1 w2 w3 z0 z1 z2 u0 u1 u2 y0 y1 y2 v0 v1 v2 hx ck ckb cjb p5 q5 HZ
       have HCK := zA hg5
       clear hg5
       go_upto_region 15 with (fail)
       have hb5 : Below W5.heap.size W5 (W5.alloc (.cells #[.bool kid.f0, .slice A5 kid.f1.length c5, .slice A6 kid.f2.length c6] 56)) := below_alloc (zZ _ _) _
       have K13 := zA (blk_new W5 (.cells #[.bool kid.f0, .slice A5 kid.f1.length c5, .slice A6 kid.f2.length c6] 56))
       have HZ := zA (show m0 + 3 ≤ (W5.alloc (.cells #[.bool kid.f0, .slice A5 kid.f1.length c5, .slice A6 kid.f2.length c6] 56)).heap.size from yI hm5 hb5.size)
       rw [← HCK.out] at K13 ⊢
       replace K6 := zA (zH K6.out hb5)
       replace K9 := zA (zH K9.out hb5)
       replace K10 := zA (zH K10.out hb5)
       replace HF := zA (yF HF.out hb5)
       replace FB := zA (yF FB.out hb5)
       replace HNK := zA (Kd.N_below HNK.out hb5)
       replace HKK := zA (yE HKK.out hb5)
       replace HB := zA (below_lo HB.out hb5 (by omega))
       replace HBm := zA (below_lo HBm.out hb5 (by omega))
       have hne : m0 + 2 ≠ g5 := by have := HCK.out; omega
       generalize (W5.alloc (.cells #[.bool kid.f0, .slice A5 kid.f1.length c5, .slice A6 kid.f2.length c6] 56)) = W6 at *
       clear hb5 hm5 HCK
       obtain ⟨x0, x1, x2, x3, w0, w1, w2, w3⟩ := blk_cells4 K9.out
       obtain ⟨z0, z1, z2, u0, u1, u2⟩ := blk_cells3 K10.out
       obtain ⟨y0, y1, y2, v0, v1, v2⟩ := blk_cells3 K6.out
       obtain ⟨q0, q1, q2, r0, r1, r2⟩ := blk_cells3 K13.out
       cases okk
       case false =>
        have hrq : r = (⟨false, [], acc⟩, nx, false) := by have := HRQ.out; simpa using this
        go_wp2_with fail
        refine bodyPost_ret (results_three rfl _ _ m0 56 _ (0, 0) _ rfl (blk_set3 K6.out) hu56 rfl (by kernel_rfl)) rfl ?_
        exact nest_end hrq HN0.out HNK.out HB.out HN.out
       case true =>
        have HRR := zA (show r = nestL (nestD ns d) (decide (0 < nd.f2.length)) (nd.f2.drop (j + 1)) after (acc ++ [kid]) by have := HRQ.out; simpa using this)
        clear HRQ
        cases gk with
        | zero => exact absurd HI.out (by have := CJ.out; omega)
        | succ mm =>
          have HW9 := zA (show wrap64 ((j : Int) + 1) = ((j + 1 : Nat) : Int) by have := CJ.out; have := HLF.out; unfold wrap64; omega)
          go_wp2_with ((with_reducible refine gate_builtin (b := .append) (xs := #[.tmp 81, .tmp 83]) rfl ?_); at_builtin; refine Kd.N_append k56 (w0 := W6) (m0 + 3) rfl (.tmp 81) (.tmp 83) 54 56 (.agg #[(.bool false), (.slice none 0 0), (.slice none 0 0)]) 56 rfl Try.underlying54 info56 rfl (by decide) (by omega) (.slice A3 acc.length c3) acc kid [.bool kid.f0, .slice A5 kid.f1.length c5, .slice A6 kid.f2.length c6] (fun k => k < n0 ∨ m0 + 3 ≤ k) (fun k => (k < n0 ∨ m0 + 3 ≤ k) ∧ some k ≠ (Value.slice A3 acc.length c3).ownBlock) rfl rfl ?aP (fun _ hk => hk) ?aF ?aO ?aB ?aS ?aL ?_; (case aP => exact HKK.out); (case aB => exact zZ _ _); (case aF => exact fun k hk => Or.inr (yI HZ.out hk)); (case aO => exact HNK.out); (case aS => exact HZ.out); (case aL => have := HI.out; have := HK2.out; have := CJ.out; omega); intro v84 w9 ho hb hg hat; obtain ⟨A4, c4, rfl⟩ := Kd.N_slice ho; have K10n := zA ((hb.block (m0 + 2) (by omega)).trans K10.out); have HNn := zA ho; have HBn := zA (below_same HB.out (below_less hb (by omega))); have HBp := zA (below_same HBm.out (below_less (lo := m0 + 2) hb (by omega))); clear ho hb hg hat x0 x1 x2 x3 w0 w1 w2 w3 z0 z1 z2 u0 u1 u2 y0 y1 y2 v0 v1 v2 q0 q1 q2 r0 r1 r2 K10 HNK HKK; obtain ⟨z0, z1, z2, u0, u1, u2⟩ := blk_cells3 K10n.out)
          go_roundg mm
          case measure => omega
          case rel => exact ⟨j + 1, after, acc ++ [kid], A4, c4, by rw [HW9.out], rfl, ⟨by have := HI.out; have := CJ.out; rw [List.length_append, List.length_singleton]; omega⟩, HRR, ⟨by rw [show (acc ++ [kid]).length = acc.length + 1 by simp]; exact blk_put K10n.out 2 _ rfl⟩, ⟨by rw [← List.length_singleton (a := kid), ← List.length_append]; exact Kd.N_far (p := ⟨m0 + 2, 2, none⟩) HNn.out (fun k hk => by have := HN0.out; show k ≠ m0 + 2; omega) _⟩, ⟨HBp.out.setCell (zY _) _⟩⟩
      ·have ckb : (rd nd.f2 (j : Int) != nx) = true := by simp [ck]
       have hrq : r = (⟨false, [], acc⟩, nx, false) := by
        rw [HQ.out, drop_rd _ _ CJ.out]
        rw [nestL_cons, if_neg ck]
       go_wp2_with fail
       refine bodyPost_ret (results_three rfl _ _ m0 56 _ (0, 0) _ rfl (blk_set3 K6.out) hu56 rfl (by kernel_rfl)) rfl ?_
       exact nest_end hrq HN0.out HNK.out HB.out HN.out
     ·have cjb : decide (j < nd.f2.length) = false := zK cj
      have hj : j = nd.f2.length := by have := HI.out; omega
      have hrq : r = (⟨false, [], acc⟩, nx, decide (0 < nd.f2.length)) := by
       rw [HQ.out, hj, List.drop_length]
       rfl
      clear hj
      go_wp2_with fail
      go_region
      go_wp2_with fail
      refine bodyPost_ret (results_three rfl _ _ m0 56 _ (0, 0) _ rfl (blk_set3 K6.out) hu56 rfl (by kernel_rfl)) rfl ?_
      exact nest_end2 hrq HN0.out HNK.out HB.out HN.out

/-! ### zt_fs: a text by hand -/
-- uses FK_dr blk_cells3
-- l3Flat's state: the node's rows and the rest's
theorem below_sz {B : Nat} {w w1 : World} (h : Below B w w1) : w.heap.size ≤ w1.heap.size := h.size
structure FS (w : World) (m0 gn : Nat) (kv iv rv : Value) (ks : List ByteArray) (is : List Int) (rs : List S90) : Prop where
 kr : Kd.R Kd.string 9 w m0 (fun _ => True) kv ks
 ir : Kd.R (Kd.int .i64) 2 w m0 (fun _ => True) iv is
 rr : Kd.N k90 90 w m0 (fun k => ((m0 ≤ k ∧ k ≠ gn) ∧ some k ≠ kv.ownBlock) ∧ some k ≠ iv.ownBlock) rv rs
 kg : some gn ≠ kv.ownBlock
 ig : some gn ≠ iv.ownBlock
theorem FS.below {w w1 : World} {m0 gn : Nat} {kv iv rv : Value} {ks : List ByteArray} {is : List Int} {rs : List S90} (h : FS w m0 gn kv iv rv ks is rs) (hb : Below w.heap.size w w1) : FS w1 m0 gn kv iv rv ks is rs :=
 ⟨Kd.R_below h.kr hb, Kd.R_below h.ir hb, Kd.N_below h.rr hb, h.kg, h.ig⟩
theorem FS.far {w : World} {m0 gn : Nat} {kv iv rv : Value} {ks : List ByteArray} {is : List Int} {rs : List S90} (h : FS w m0 gn kv iv rv ks is rs) (j : Nat) (u : Value) : FS (w.setCell ⟨gn, j, none⟩ u) m0 gn kv iv rv ks is rs :=
 ⟨yA (Kd.R_far (p := ⟨gn, j, none⟩) (Kd.R_tight rfl h.kr) (fun k hk he => h.kg ((congrArg some (show k = gn from he)).symm.trans hk)) u) (fun _ _ => trivial),
  yA (Kd.R_far (p := ⟨gn, j, none⟩) (Kd.R_tight rfl h.ir) (fun k hk he => h.ig ((congrArg some (show k = gn from he)).symm.trans hk)) u) (fun _ _ => trivial),
  Kd.N_far (p := ⟨gn, j, none⟩) h.rr (fun k hk => hk.1.1.2) u, h.kg, h.ig⟩
theorem FS.apart {w : World} {m0 gn : Nat} {kv iv rv : Value} {ks : List ByteArray} {is : List Int} {rs : List S90} (h : FS w m0 gn kv iv rv ks is rs) (k : Nat) : ¬ (kv.ownBlock = some k ∧ iv.ownBlock = some k) := by
 rintro ⟨h1, h2⟩
 obtain ⟨c1, e1⟩ := Kd.R_typed h.kr k h1
 obtain ⟨c2, e2⟩ := Kd.R_typed h.ir k h2
 rw [e1] at e2
 simp at e2
theorem FS.kids {w w1 : World} {m0 gn : Nat} {kv iv iv1 rv : Value} {ks : List ByteArray} {is is1 : List Int} {rs : List S90} (h : FS w m0 gn kv iv rv ks is rs) (hk : Kd.R (Kd.int .i64) 2 w1 m0 (fun _ => True) iv1 is1) (hg : w.grownBy w1 iv.ownBlock) (hat : iv1.ownBlock = iv.ownBlock ∨ ∃ b, iv1.ownBlock = some b ∧ w.heap.size ≤ b) (hl : gn < w.heap.size) : FS w1 m0 gn kv iv1 rv ks is1 rs := by
 refine ⟨yA (Kd.R_grown (Kd.R_tight rfl h.kr) hg (fun k hk he => h.apart k ⟨hk.symm, he.symm⟩)) (fun _ _ => trivial), hk, Kd.N_after h.rr hg hat, h.kg, ?_⟩
 rcases hat with e | ⟨b, e, hb⟩
 ·rw [e]; exact h.ig
 ·rw [e]
  intro he
  injection he with he
  omega
theorem FS.keys {w w1 : World} {m0 gn : Nat} {kv kv1 iv rv : Value} {ks ks1 : List ByteArray} {is : List Int} {rs : List S90} (h : FS w m0 gn kv iv rv ks is rs) (hk : Kd.R Kd.string 9 w1 m0 (fun _ => True) kv1 ks1) (hg : w.grownBy w1 kv.ownBlock) (hat : kv1.ownBlock = kv.ownBlock ∨ ∃ b, kv1.ownBlock = some b ∧ w.heap.size ≤ b) (hl : gn < w.heap.size) : FS w1 m0 gn kv1 iv rv ks1 is rs := by
 refine ⟨hk, yA (Kd.R_grown (Kd.R_tight rfl h.ir) hg (fun k hk he => h.apart k ⟨he.symm, hk.symm⟩)) (fun _ _ => trivial), ?_, ?_, h.ig⟩
 ·exact yC (Kd.N_after (ok := fun k => (m0 ≤ k ∧ k ≠ gn) ∧ some k ≠ iv.ownBlock) (yC h.rr (fun k hk => ⟨⟨hk.1.1, hk.2⟩, hk.1.2⟩)) hg hat) (fun k hk => ⟨⟨hk.1.1, hk.2⟩, hk.1.2⟩)
 ·rcases hat with e | ⟨b, e, hb⟩
  ·rw [e]; exact h.kg
  ·rw [e]
   intro he
   injection he with he
   omega
theorem FS.rest {w w1 : World} {m0 gn : Nat} {kv iv rv rv1 : Value} {ks : List ByteArray} {is : List Int} {rs rs1 : List S90} (h : FS w m0 gn kv iv rv ks is rs) (hr : Kd.N k90 90 w1 m0 (fun k => ((m0 ≤ k ∧ k ≠ gn) ∧ some k ≠ kv.ownBlock) ∧ some k ≠ iv.ownBlock) rv1 rs1) (hg : w.grownBy w1 rv.ownBlock) : FS w1 m0 gn kv iv rv1 ks is rs1 :=
 ⟨yA (Kd.R_grown (Kd.R_tight rfl h.kr) hg (fun k hk he => (h.rr.1 k he.symm).1.2 hk)) (fun _ _ => trivial), yA (Kd.R_grown (Kd.R_tight rfl h.ir) hg (fun k hk he => (h.rr.1 k he.symm).2 hk)) (fun _ _ => trivial), hr, h.kg, h.ig⟩
theorem FS.fresh {w : World} {m0 gn : Nat} {kv iv rv : Value} {ks : List ByteArray} {is : List Int} {rs : List S90} (h : FS w m0 gn kv iv rv ks is rs) (hm : m0 ≤ w.heap.size) (hl : gn < w.heap.size) (k : Nat) (hk : w.heap.size ≤ k) : (((m0 ≤ k ∧ k ≠ gn) ∧ some k ≠ kv.ownBlock) ∧ some k ≠ iv.ownBlock) ∧ some k ≠ rv.ownBlock := by
 refine ⟨⟨⟨⟨by omega, by omega⟩, fun he => ?_⟩, fun he => ?_⟩, fun he => ?_⟩
 ·have := Kd.R_lt h.kr k he.symm; omega
 ·have := Kd.R_lt h.ir k he.symm; omega
 ·have := Kd.N_lt h.rr k he.symm; omega
theorem FS.gn_rv {w : World} {m0 gn : Nat} {kv iv rv : Value} {ks : List ByteArray} {is : List Int} {rs : List S90} (h : FS w m0 gn kv iv rv ks is rs) : some gn ≠ rv.ownBlock := fun he => (h.rr.1 gn he.symm).1.1.2 rfl
/-- The node's cells, read. -/
theorem FS.node {w : World} {m0 gn : Nat} {kv iv rv : Value} {ks : List ByteArray} {is : List Int} {rs : List S90} (h : FS w m0 gn kv iv rv ks is rs) (b : Bool) (c : Int) : Kd.FK k90 w (fun k => m0 ≤ k) ⟨b, ks, is, c⟩ [.bool b, kv, iv, .int .i64 c] := by
 obtain ⟨A1, c1, e1⟩ := Kd.R_slice h.kr
 obtain ⟨A2, c2, e2⟩ := Kd.R_slice h.ir
 have hk := h.kr
 have hi := h.ir
 subst e1 e2
 have b1 := Kd.R_base hk
 have b2 := Kd.R_base hi
 exact k90_mkF w _ ⟨b, ks, is, c⟩ (Kd.R_reads' hk).2.1 (Kd.R_F (yA (Kd.R_tight rfl hk) (fun k hk => b1 k hk.symm))) (Kd.R_reads' hi).2.1 (Kd.R_F (yA (Kd.R_tight rfl hi) (fun k hk => b2 k hk.symm)))
theorem at_F56 {W : World} {A : Option Addr} {n : Nat} {xs : List S56} {ok : Nat → Prop} (h : Kd.F k56 W ok A n xs) (i : Int) (h0 : 0 ≤ i) (h1 : i < n) : ∃ ad A1 c1 A2 c2, A = some ad ∧ W.cell? (ad.add (i.toNat * 3)) = some (.bool (rd_T56 xs i).f0) ∧ W.cell? ⟨(ad.add (i.toNat * 3)).block, (ad.add (i.toNat * 3)).off + 1, none⟩ = some (.slice A1 (rd_T56 xs i).f1.length c1) ∧ W.cell? ⟨(ad.add (i.toNat * 3)).block, (ad.add (i.toNat * 3)).off + 2, none⟩ = some (.slice A2 (rd_T56 xs i).f2.length c2) ∧ Kd.FK k56 W ok (rd_T56 xs i) [.bool (rd_T56 xs i).f0, .slice A1 (rd_T56 xs i).f1.length c1, .slice A2 (rd_T56 xs i).f2.length c2] := by
 obtain ⟨ad, c, e, _, hK, hc0, _⟩ := Kd.F_get h z56 i h0 h1
 have hc : ∀ j u, c[j]? = some u → W.cell? (ad.add (i.toNat * 3 + j)) = some u := hc0
 have hK2 := hK
 obtain ⟨A1, c1, A2, c2, rfl, l1, g1, l2, g2⟩ := k56_openF hK
 exact ⟨ad, A1, c1, A2, c2, e, hc 0 _ rfl, by rw [← add_field _ _ 1 (by omega)]; exact hc 1 _ rfl, by rw [← add_field _ _ 2 (by omega)]; exact hc 2 _ rfl, hK2⟩
theorem flatD_le : ∀ {d : Nat} {r : Bool} {t : S56} (a : Int), goodD d r t → (flatD d t a).length + 1 ≤ 4 ^ (d + 1)
 | 0, r, t, a, h => by simp [flatD]
 | d + 1, r, t, a, h => by
   obtain ⟨_, _, _, h3, hk⟩ := h
   have : ∀ (ks : List S56) (b : Int), (∀ k ∈ ks, goodD d false k) → (flatL (flatD d) ks b).length + ks.length ≤ ks.length * 4 ^ (d + 1) := by
    intro ks
    induction ks with
    | nil => intro _ _; simp [flatL]
    | cons k ks ih =>
      intro b hk
      have h1 := flatD_le b (hk k List.mem_cons_self)
      have h2 := ih (b + ((flatD d k b).length : Nat)) (fun x hx => hk x (List.mem_cons_of_mem _ hx))
      simp only [flatL, List.length_append, List.length_cons, Nat.add_mul, Nat.one_mul] at h2 ⊢
      omega
   have := this t.f2 (a + 1) hk
   have h4 : t.f2.length * 4 ^ (d + 1) ≤ 4 * 4 ^ (d + 1) := Nat.mul_le_mul_right _ h3
   have h5 : 2 ≤ t.f2.length := by assumption
   simp only [flatD, List.length_cons]
   rw [Nat.pow_succ]
   omega
theorem reps_single {α : Type} {R : α → List Value → Prop} {size : Nat} {p : α} {cs : List Value} (h : R p cs) (hl : cs.length = size) : Reps R size [p] cs := by
 refine ⟨by simp [hl], fun j q hj => ?_⟩
 cases j with
 | zero =>
   simp only [List.getElem?_cons_zero, Option.some.injEq] at hj
   subst hj
   rw [Nat.zero_mul, List.drop_zero, List.take_of_length_le (by omega)]
   exact h
 | succ j => simp at hj
theorem below_new {B : Nat} {w w1 : World} (hb : Below B w w1) (hg : w.grownBy w1 none) : Below w.heap.size w w1 := ⟨hb.os, hb.tape, hb.output, hb.size, fun k hk => hg.block k hk (by simp)⟩
theorem FS.nil (w : World) (m0 gn : Nat) : FS w m0 gn (.slice none 0 0) (.slice none 0 0) (.slice none 0 0) [] [] [] := ⟨Kd.R_nil _ _ _ _ _, Kd.R_nil _ _ _ _ _, Kd.N_nil _ _ _ _ _, by simp [Value.ownBlock], by simp [Value.ownBlock]⟩
theorem N_lit1 {α : Type} {d : Kd α} {w : World} {e base : Nat} {okp ok : Nat → Prop} {x : α} {cs : List Value} (hK : Kd.FK d w okp x cs) (hok : ∀ k, okp k → ok k) (hfresh : ok w.heap.size) (hbase : base ≤ w.heap.size) : Kd.N d e (w.alloc (.cells cs.toArray e)) base ok (.slice (some ⟨w.heap.size, 0, none⟩) 1 1) [x] := by
 have hl : cs.length = d.sz := d.K_len (Kd.FK_now hK)
 have hR : (Kd.raw d.sz).R e (w.alloc (.cells cs.toArray e)) base (fun k => k = w.heap.size) (.slice (some ⟨w.heap.size, 0, none⟩) 1 1) [cs] := by
  refine ⟨fun k hk => ?_, cs, ?_, reps_single ⟨rfl, hl, d.K_one (Kd.FK_now hK)⟩ hl⟩
  · simpa [Value.ownBlock] using hk.symm
  · have h2 := World.ownsRow_lit (base := base) (e := e) (size := d.sz) w cs.toArray 1 hbase (by decide) (by simp [hl])
    have h3 : (w.alloc (.cells cs.toArray e)).ownsRow base e d.sz (.slice (some ⟨w.heap.size, 0, none⟩) 1 1) 1 cs := by simpa using h2
    exact h3
 exact Kd.N_made hR (World.grownBy_alloc w _ none) ⟨w.heap.size, by simp [Value.ownBlock], zY _⟩ rfl (fun j y c hy hc => by
  cases j with
  | zero =>
    simp only [List.getElem?_cons_zero, Option.some.injEq] at hy hc
    subst hy hc
    exact hK
  | succ j => simp at hy) hok hfresh
theorem sz_set (w : World) (a : Addr) (v : Value) : (w.setCell a v).heap.size = w.heap.size := by
 unfold World.setCell
 split <;> simp
theorem sepL_take {d j : Nat} {ks : List S56} (h : j < ks.length) (h0 : 0 < j) : sepL d (ks.take (j + 1)) = sepL d (ks.take j) ++ [headK d ks[j]] := by
 rw [List.take_add_one, List.getElem?_eq_getElem h, Option.toList_some, sepL_snoc, if_neg]
 rw [zW]
 omega
theorem flatL_take {f : S56 → Int → List S90} {j : Nat} {ks : List S56} {a : Int} (h : j < ks.length) : flatL f (ks.take (j + 1)) a = flatL f (ks.take j) a ++ f ks[j] (a + ((flatL f (ks.take j) a).length : Nat)) := by
 rw [List.take_add_one, List.getElem?_eq_getElem h, Option.toList_some, flatL_snoc]
theorem noL_take {f : S56 → Int → List S90} {j : Nat} {ks : List S56} {a : Int} (h : j < ks.length) : noL f (ks.take (j + 1)) a = noL f (ks.take j) a ++ [a + ((flatL f (ks.take j) a).length : Nat)] := by
 rw [List.take_add_one, List.getElem?_eq_getElem h, Option.toList_some, noL_snoc]
theorem flatL_le {d : Nat} {ks : List S56} (a : Int) (h4 : ks.length ≤ 4) (hk : ∀ k ∈ ks, goodD d false k) : (flatL (flatD d) ks a).length ≤ 4 ^ (d + 2) := by
 have : ∀ (ks : List S56) (b : Int), (∀ k ∈ ks, goodD d false k) → (flatL (flatD d) ks b).length ≤ ks.length * 4 ^ (d + 1) := by
  intro ks
  induction ks with
  | nil => intro _ _; simp [flatL]
  | cons k ks ih =>
    intro b hk
    have h1 := flatD_le b (hk k List.mem_cons_self)
    have h2 := ih (b + ((flatD d k b).length : Nat)) (fun x hx => hk x (List.mem_cons_of_mem _ hx))
    simp only [flatL, List.length_append, List.length_cons, Nat.add_mul, Nat.one_mul] at h2 ⊢
    omega
 have := this ks a hk
 have h4 : ks.length * 4 ^ (d + 1) ≤ 4 * 4 ^ (d + 1) := Nat.mul_le_mul_right _ h4
 rw [Nat.pow_succ 4 (d + 1)]
 omega
theorem cell_stay {w w1 : World} (hb : Below w.heap.size w w1) {a : Addr} {v : Value} (h : w.cell? a = some v) : w1.cell? a = some v := Kd.cell_heap (fun k hk => hb.block k hk) h
theorem at_F56r {W : World} {A : Option Addr} {n : Nat} {xs : List S56} {ok : Nat → Prop} (h : Kd.F k56 W ok A n xs) (i : Nat) (h1 : i < n) : ∃ ad A1 c1 A2 c2, A = some ad ∧ W.cell? (ad.add (i * 3)) = some (.bool (rd_T56 xs (i : Int)).f0) ∧ W.cell? ⟨(ad.add (i * 3)).block, (ad.add (i * 3)).off + 1, none⟩ = some (.slice A1 (rd_T56 xs (i : Int)).f1.length c1) ∧ W.cell? ⟨(ad.add (i * 3)).block, (ad.add (i * 3)).off + 2, none⟩ = some (.slice A2 (rd_T56 xs (i : Int)).f2.length c2) ∧ Kd.FK k56 W ok (rd_T56 xs (i : Int)) [.bool (rd_T56 xs (i : Int)).f0, .slice A1 (rd_T56 xs (i : Int)).f1.length c1, .slice A2 (rd_T56 xs (i : Int)).f2.length c2] ∧ (rd_T56 xs (i : Int)).f1.length ≤ c1 ∧ Kd.F Kd.string W ok A1 (rd_T56 xs (i : Int)).f1.length (rd_T56 xs (i : Int)).f1 ∧ (rd_T56 xs (i : Int)).f2.length ≤ c2 ∧ Kd.F k56 W ok A2 (rd_T56 xs (i : Int)).f2.length (rd_T56 xs (i : Int)).f2 ∧ ok (ad.add (i * 3)).block := by
 obtain ⟨ad0, c0, e0, _, _, _, hblk⟩ := Kd.F_get h z56 (i : Int) (by omega) (by omega)
 obtain ⟨ad, A1, c1, A2, c2, e, x0, x1, x2, hK⟩ := at_F56 h (i : Int) (by omega) (by omega)
 simp only [Int.toNat_natCast] at x0 x1 x2
 obtain ⟨A1', c1', A2', c2', he, l1, F1, l2, F2⟩ := k56_openF hK
 simp only [List.cons.injEq, Value.slice.injEq, and_true, true_and] at he
 obtain ⟨⟨rfl, rfl⟩, rfl, rfl⟩ := he
 rw [e] at e0
 injection e0 with e0
 subst e0
 exact ⟨ad, _, _, _, _, e, x0, x1, x2, hK, l1, F1, l2, F2, by rw [add_block]; exact hblk (by decide)⟩
end Go.Proofs.Ytfjcfklgnlmjjaa.PB
