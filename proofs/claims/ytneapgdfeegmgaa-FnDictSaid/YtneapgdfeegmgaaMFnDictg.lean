-- Made by this session's programs out of the translation and of its own texts.
import Derived.Test.YtneapgdfeegmgaaMFnDictf
namespace Go.Proofs.Ytneapgdfeegmgaa.PI
open Go.RowKit Go.Proofs.YtneapgdfeegmgaaW.PrintWords Go.Proofs.YtneapgdfeegmgaaW.PrintLast Go.Proofs.YtneapgdfeegmgaaW.PrintMore
attribute [local go_sem] max2_int min2_int max_two min_two max_three min_three max_four min_four   -- for this text's walks alone
set_option linter.unusedVariables false
set_option linter.unusedSimpArgs false

/-! ### L_zlawFnDict: a text by hand -/
def VD (next : Int) (l : List S51) : Prop :=
  1 ≤ next ∧ next ≤ 2000000000 ∧ l.length ≤ 1200 ∧ (∀ t ∈ l, 1 ≤ (t.f1.size : Int) ∧ (t.f1.size : Int) ≤ 30 ∧ 1 ≤ t.f0 ∧ t.f0 < next ∧ 1 ≤ t.f2 ∧ t.f2 ≤ 2000000000) ∧ l.Pairwise ltX ∧ l.Pairwise (fun x y => x.f0 ≠ y.f0)
theorem vFrom_of (next : Int) (l : List S51) (h : ∀ j, j < l.length → tPre next l j = true ∧ noId l (gT l j).f0 0 j = true) : ∀ (d i : Nat), i + d = l.length → vFrom next l i d = true
  | 0, _, _ => rfl
  | d + 1, i, hi => by
    unfold vFrom
    rw [(h i (by omega)).1, (h i (by omega)).2, vFrom_of next l h d (i + 1) (by omega)]
    rfl
theorem VD.valid {next : Int} {l : List S51} (h : VD next l) : vT next l = true := by
  obtain ⟨h1, h2, h3, h4, h5, h6⟩ := h
  unfold vT
  rw [decide_eq_true h1, decide_eq_true h2, decide_eq_true h3, vFrom_of next l ?_ l.length 0 (by omega)]
  · rfl
  intro j hj
  have hm := h4 (gT l j) (by rw [gT_at l j hj]; exact List.getElem_mem _)
  refine ⟨(tPre_cases _ _ _).2 ⟨hm.1, hm.2.1, hm.2.2.1, hm.2.2.2.1, hm.2.2.2.2.1, hm.2.2.2.2.2, ?_⟩, ?_⟩
  · unfold tOrd
    by_cases c : j = 0
    · rw [decide_eq_true c]; rfl
    · have := List.pairwise_iff_getElem.1 h5 (j - 1) j (by omega) hj (by omega)
      rw [gT_at l j hj, gT_at l (j - 1) (by omega), bless_eq, decide_eq_true (show l[j - 1].f1.toList < l[j].f1.toList from this), Bool.or_true]
  · rw [noId_iff]
    intro x _ hx
    have := List.pairwise_iff_getElem.1 h6 x j (by omega) hj (by omega)
    rw [gT_at l j hj, gT_at l x (by omega)]
    exact this
theorem VD.of {next : Int} {l : List S51} (h : vT next l = true) : VD next l := by
  have hf := vT_facts h
  refine ⟨hf.1, hf.2.1, hf.2.2.1, fun t ht => vT_mem h ht, vT_asc h, ?_⟩
  rw [List.pairwise_iff_getElem]
  intro i j hi hj hij
  have := (vFrom_at next l l.length 0 j hf.2.2.2 (Nat.zero_le _) (by omega)).2
  rw [noId_iff] at this
  have := this i (Nat.zero_le _) (by omega)
  rwa [gT_at l i hi, gT_at l j hj] at this
theorem ids_set {l : List S51} (h : l.Pairwise (fun x y => x.f0 ≠ y.f0)) (i : Nat) (q : S51) (hi : i < l.length) (hq : q.f0 = (gT l i).f0) : (l.set i q).Pairwise (fun x y => x.f0 ≠ y.f0) := by
  rw [List.pairwise_iff_getElem] at h ⊢
  rw [gT_at l i hi] at hq
  intro a b ha hb hab
  simp only [List.length_set] at ha hb
  rw [List.getElem_set, List.getElem_set]
  split <;> split
  · omega
  · subst a; rw [hq]; exact h i b ha hb hab
  · subst b; rw [hq]; exact h a i ha hb hab
  · exact h a b ha hb hab
theorem mem_set_or {α : Type} {l : List α} {i : Nat} {q x : α} (h : x ∈ l.set i q) : x ∈ l ∨ x = q := by
  rcases List.mem_or_eq_of_mem_set h with h | h
  · exact .inl h
  · exact .inr h
/-- The dictionary of the law's loop behind i rounds. -/
def DI (i : Nat) (given next : Int) (l : List S51) : Prop := VD next l ∧ given < next ∧ 0 ≤ given ∧ next ≤ i + 1 ∧ l.length ≤ i ∧ (∀ t ∈ l, t.f2 ≤ i) ∧ i ≤ 40
theorem tText_at {next : Int} {l : List S51} (h : VD next l) (t : S51) (ht : t ∈ l) : tText next l t.f0 = t.f1 := by
  unfold tText
  rw [if_pos h.valid]
  have h6 := h.2.2.2.2.2
  clear h
  have : tById l t.f0 = some t := by
    unfold tById
    induction l with
    | nil => cases ht
    | cons x l ih =>
      rw [List.find?_cons]
      by_cases c : x.f0 = t.f0
      · rw [decide_eq_true c]
        rcases List.mem_cons.1 ht with rfl | ht
        · rfl
        · exact absurd c ((List.pairwise_cons.1 h6).1 t ht)
      · rw [decide_eq_false c]
        rcases List.mem_cons.1 ht with rfl | ht
        · exact absurd rfl c
        · exact ih ht (List.pairwise_cons.1 h6).2
  rw [this]
  rfl
theorem tId_some {next : Int} {l : List S51} {s : ByteArray} (h : VD next l) {i : Nat} (hi : ixText l s = some i) : tId next l s = (gT l i).f0 ∧ (gT l i) ∈ l ∧ (gT l i).f1.toList = s.toList := by
  have hl := ixText_lt hi
  obtain ⟨h1, h2, h3⟩ := List.findIdx?_eq_some_iff_getElem.1 hi
  unfold tId tByText
  rw [if_pos h.valid]
  have hF : l.find? (fun t => decide (t.f1.toList = s.toList)) = some l[i] := List.find?_eq_some_iff_getElem.2 ⟨h2, i, h1, rfl, fun j hj => by simpa using h3 j hj⟩
  rw [hF, gT_at l i hl]
  exact ⟨rfl, List.getElem_mem _, by simpa using h2⟩
theorem tId_none {next : Int} {l : List S51} {s : ByteArray} (h : VD next l) (hi : ixText l s = none) : tId next l s = 0 := by
  unfold tId tByText
  rw [if_pos h.valid, List.find?_eq_none.2 (fun t ht => by simpa using ixText_ne hi t ht)]
  rfl
theorem ba_ext {a b : ByteArray} (h : a.toList = b.toList) : a = b := by
  rw [ByteArray.toList_eq, ByteArray.toList_eq] at h
  exact Go.WideShapes.bytes_inj h
theorem DI.intern {i : Nat} {given next : Int} {l : List S51} (h : DI i given next l) (hi : i < 40) (s : ByteArray) (hs : s.size = 1) :
    ∃ id n' L, sIntern next l s = (true, id, n', L) ∧ (0 < tId next l s → id = tId next l s) ∧ (tId next l s = 0 → given < id) ∧ tText n' L id = s ∧ DI (i + 1) (if id > given then id else given) n' L := by
  obtain ⟨hV, h2, h3, h4, h5, h6, h7⟩ := h
  have hg : gTx s = true := by unfold gTx; rw [hs]; rfl
  unfold sIntern
  rw [if_pos hV.valid, if_pos hg]
  cases hx : ixText l s with
  | some j =>
    obtain ⟨e1, hm, e2⟩ := tId_some hV hx
    have hj := ixText_lt hx
    have hq := hV.2.2.2.1 _ hm
    have hr := h6 _ hm
    simp only
    rw [if_neg (by omega)]
    have hV' : VD next (l.set j ⟨(gT l j).f0, (gT l j).f1, (gT l j).f2 + 1⟩) := by
      refine ⟨hV.1, hV.2.1, by simpa using hV.2.2.1, fun t ht => ?_, asc_set hV.2.2.2.2.1 j _ hj rfl, ids_set hV.2.2.2.2.2 j _ hj rfl⟩
      rcases mem_set_or ht with ht | rfl
      · exact hV.2.2.2.1 t ht
      · exact ⟨hq.1, hq.2.1, hq.2.2.1, hq.2.2.2.1, by show 1 ≤ (gT l j).f2 + 1; omega, by show (gT l j).f2 + 1 ≤ 2000000000; omega⟩
    refine ⟨_, _, _, rfl, fun _ => e1.symm, fun h => by rw [e1] at h; omega, ?_, hV', ?_, ?_, by omega, by simp; omega, fun t ht => ?_, by omega⟩
    · rw [tText_at hV' ⟨(gT l j).f0, (gT l j).f1, (gT l j).f2 + 1⟩ (List.mem_iff_getElem.2 ⟨j, by simpa using hj, by simp⟩)]
      exact ba_ext e2
    · split <;> omega
    · split <;> omega
    · rcases mem_set_or ht with ht | rfl
      · have := h6 t ht; omega
      · show (gT l j).f2 + 1 ≤ _; omega
  | none =>
    have e1 := tId_none hV hx
    simp only
    rw [if_neg (by omega)]
    have hP : ((l.take (insP l s) ++ [(⟨next, s, 1⟩ : S51)]) ++ l.drop (insP l s)).Perm ((⟨next, s, 1⟩ : S51) :: l) := by
      have h := @List.perm_middle _ (⟨next, s, 1⟩ : S51) (l.take (insP l s)) (l.drop (insP l s))
      rw [List.take_append_drop] at h
      rw [List.append_assoc, List.singleton_append]
      exact h
    have hV' : VD (next + 1) ((l.take (insP l s) ++ [⟨next, s, 1⟩]) ++ l.drop (insP l s)) := by
      refine ⟨by omega, by omega, by rw [hP.length_eq]; simp; omega, fun t ht => ?_, asc_ins l ⟨next, s, 1⟩ hV.2.2.2.2.1 (ixText_ne hx), ?_⟩
      · rcases List.mem_cons.1 (hP.mem_iff.1 ht) with rfl | ht
        · have := hV.1; exact ⟨by rw [hs]; decide, by rw [hs]; decide, by simpa using hV.1, by show next < next + 1; omega, by show (1 : Int) ≤ 1; omega, by show (1 : Int) ≤ 2000000000; omega⟩
        · have := hV.2.2.2.1 t ht; exact ⟨this.1, this.2.1, this.2.2.1, by omega, this.2.2.2.2.1, this.2.2.2.2.2⟩
      · refine (hP.pairwise_iff (fun {x y} h => Ne.symm h)).2 (List.pairwise_cons.2 ⟨fun t ht => ?_, hV.2.2.2.2.2⟩)
        have := (hV.2.2.2.1 t ht).2.2.2.1
        show next ≠ t.f0
        omega
    refine ⟨_, _, _, rfl, fun h => by omega, fun _ => h2, ?_, hV', ?_, ?_, by omega, by rw [hP.length_eq]; simp; omega, fun t ht => ?_, by omega⟩
    · exact tText_at hV' ⟨next, s, 1⟩ (hP.mem_iff.2 List.mem_cons_self)
    · split <;> omega
    · split <;> omega
    · rcases List.mem_cons.1 (hP.mem_iff.1 ht) with rfl | ht
      · show (1 : Int) ≤ _; omega
      · have := h6 t ht; omega
theorem DI.release {i : Nat} {given next : Int} {l : List S51} (h : DI i given next l) (hi : i < 40) (s : ByteArray) :
    ∃ b L, (sRelease next l (tId next l s)).1 = b ∧ b = decide (tId next l s > 0) ∧ (sRelease next l (tId next l s)).2.2 = (next, L) ∧ DI (i + 1) given next L := by
  obtain ⟨hV, h2, h3, h4, h5, h6, h7⟩ := h
  unfold sRelease
  rw [if_pos hV.valid]
  cases hx : ixText l s with
  | none =>
    rw [tId_none hV hx]
    have : ixId l 0 = none := by
      unfold ixId
      rw [List.findIdx?_eq_none_iff]
      intro t ht
      have := hV.2.2.2.1 t ht
      simp; omega
    have hr : rRes l 0 = none := by unfold rRes; rw [this]
    rw [hr]
    exact ⟨false, l, rfl, by decide, rfl, hV, h2, h3, by omega, by omega, fun t ht => by have := h6 t ht; omega, by omega⟩
  | some j =>
    obtain ⟨e1, hm, e2⟩ := tId_some hV hx
    have hq := hV.2.2.2.1 _ hm
    rw [e1]
    cases hy : ixId l (gT l j).f0 with
    | none =>
      unfold ixId at hy
      rw [List.findIdx?_eq_none_iff] at hy
      have := hy _ hm
      simp at this
    | some y =>
      have hyl := ixId_lt hy
      have hm2 : gT l y ∈ l := by rw [gT_at l y hyl]; exact List.getElem_mem _
      have hq2 := hV.2.2.2.1 _ hm2
      unfold rRes
      rw [hy]
      simp only
      by_cases c : (gT l y).f2 = 1
      · rw [if_pos c]
        refine ⟨true, l.eraseIdx y, rfl, by rw [decide_eq_true]; omega, rfl, ⟨hV.1, hV.2.1, ?_, fun t ht => hV.2.2.2.1 t ((List.eraseIdx_sublist _ _).subset ht), hV.2.2.2.2.1.sublist (List.eraseIdx_sublist _ _), hV.2.2.2.2.2.sublist (List.eraseIdx_sublist _ _)⟩, h2, h3, by omega, ?_, fun t ht => ?_, by omega⟩
        · have := (List.eraseIdx_sublist l y).length_le; have := hV.2.2.1; omega
        · have := (List.eraseIdx_sublist l y).length_le; omega
        · have := h6 t ((List.eraseIdx_sublist _ _).subset ht); omega
      · rw [if_neg c]
        refine ⟨true, l.set y ⟨(gT l y).f0, (gT l y).f1, (gT l y).f2 - 1⟩, rfl, by rw [decide_eq_true]; omega, rfl, ⟨hV.1, hV.2.1, by simpa using hV.2.2.1, fun t ht => ?_, asc_set hV.2.2.2.2.1 y _ hyl rfl, ids_set hV.2.2.2.2.2 y _ hyl rfl⟩, h2, h3, by omega, by simp; omega, fun t ht => ?_, by omega⟩
        · rcases mem_set_or ht with ht | rfl
          · exact hV.2.2.2.1 t ht
          · exact ⟨hq2.1, hq2.2.1, hq2.2.2.1, hq2.2.2.2.1, by show 1 ≤ (gT l y).f2 - 1; omega, by show (gT l y).f2 - 1 ≤ 2000000000; omega⟩
        · rcases mem_set_or ht with ht | rfl
          · have := h6 t ht; omega
          · have := h6 _ hm2; show (gT l y).f2 - 1 ≤ _; omega
theorem lwDict_loop (n : Int) (l : List S51) (hl : l.length ≤ 1200) : ∀ (d i : Nat), i + d = l.length → Ev (fun k => laws_lwDict.l0 k (i : Int) n l n l) true
  | 0, i, hi => Ev.step (f := fun _ => some true) (fun K => by simp only [laws_lwDict.l0]; rw [if_neg (by omega)]) (Ev.now _)
  | d + 1, i, hi => Ev.step (fun K => by simp only [laws_lwDict.l0]; rw [if_pos (by omega), if_pos (by omega), if_pos (by omega), if_neg (by simp), show wrap64 ((i : Int) + 1) = ((i + 1 : Nat) : Int) by unfold wrap64; omega]) (lwDict_loop n l hl d (i + 1) (by omega))
theorem lwDict_ev (n : Int) (l : List S51) (hl : l.length ≤ 1200) : Ev (fun k => laws_lwDict.f k n l n l) true := by
  unfold laws_lwDict.f
  exact Ev.congr (fun K => by rw [if_pos rfl]) (Ev.step (fun K => by simp only [laws_lwDict.j0]; rw [if_neg (by simp)]; rfl) (lwDict_loop n l hl l.length 0 (by omega)))
theorem strOne (x : Int) : (strOfNums [x]).size = 1 := by unfold strOfNums; rfl
theorem lwAt_some (c : List Int) (i : Nat) (hi : i < 40) (hc : ∀ x ∈ c, (Lit.int .u8 x).wf = true) : ∃ x, laws_lwAt.f c (i : Int) = some x := by
  unfold laws_lwAt.f
  split
  · rw [if_pos (by omega)]; exact ⟨_, rfl⟩
  · exact ⟨_, rfl⟩
theorem fnDict_loop (c : List Int) (hc : ∀ x ∈ c, (Lit.int .u8 x).wf = true) : ∀ (d i : Nat) (given next : Int) (l : List S51), i + d = 40 → DI i given next l → Ev (fun k => laws_FnDict.l0 k c given (i : Int) next l next l) true := by
  intro d
  induction d with
  | zero =>
    intro i given next l hi hD
    refine Ev.step (fun K => by simp only [laws_FnDict.l0]; rw [if_neg (by omega)]) ?_
    refine Ev.bind (lwDict_ev next l hD.1.2.2.1) ?_
    refine Ev.congr (fun K => by rw [if_pos rfl]) ?_
    refine Ev.bind (specValid_ev next l) ?_
    rw [hD.1.valid]
    exact Ev.now _
  | succ d ih =>
    intro i given next l hi hD
    obtain ⟨x, hx⟩ := lwAt_some c i (by omega) hc
    have hl : l.length ≤ 1048576 := by have := hD.1.2.2.1; omega
    have hw : wrap64 ((i : Int) + 1) = ((i + 1 : Nat) : Int) := by unfold wrap64; omega
    refine Ev.step (fun K => by simp only [laws_FnDict.l0]; rw [if_pos (by omega), hx, Option.bind_some, Option.bind_some]) ?_
    generalize hs : strOfNums [(wrap64 (97 + (Int.tmod x 6))) % 256] = s
    have hs1 : s.size = 1 := by rw [← hs]; exact strOne _
    by_cases c1 : (Int.tmod (wrap64 (Int.tdiv x 6)) 3) = 0
    · refine Ev.congr (fun K => by rw [if_pos c1]) ?_
      refine Ev.bind (specId_ev next l s hl) ?_
      refine Ev.bind (specId_ev next l s hl) ?_
      refine Ev.congr (fun K => by rw [if_pos rfl]) ?_
      refine Ev.bind (specRelease_ev next l _ (by omega)) ?_
      obtain ⟨b, L, e1, e2, e3, hD'⟩ := hD.release (by omega) s
      refine Ev.congr (fun K => by rw [if_neg (by rw [e1, e2]; simp)]) ?_
      refine Ev.bind (specRelease_ev next l _ (by omega)) ?_
      refine Ev.congr (fun K => by rw [e3, hw]) ?_
      exact ih (i + 1) given next L (by omega) hD'
    · refine Ev.congr (fun K => by rw [if_neg c1]) ?_
      refine Ev.bind (specId_ev next l s hl) ?_
      refine Ev.bind (specIntern_ev next l s (by omega)) ?_
      obtain ⟨id, n', L, e1, e2, e3, e4, hD'⟩ := hD.intern (by omega) s hs1
      have hL : L.length ≤ 1048576 := by have := hD'.1.2.2.1; omega
      have hT := specText_ev n' L id hL
      rw [e4] at hT
      have fin : ∀ b : Bool, b = false → Ev (fun k => laws_FnDict.j1 k c given (i : Int) s b next l true id n' L) true := by
        rintro _ rfl
        refine Ev.step (fun K => by simp only [laws_FnDict.j1]; rw [if_neg (by decide)]) ?_
        by_cases cg : id > given
        · rw [if_pos cg] at hD'
          refine Ev.congr (fun K => by rw [if_pos cg]) ?_
          refine Ev.bind (specIntern_ev next l s (by omega)) ?_
          refine Ev.congr (fun K => by rw [e1, hw]) ?_
          exact ih (i + 1) id n' L (by omega) hD'
        · rw [if_neg cg] at hD'
          refine Ev.congr (fun K => by rw [if_neg cg]) ?_
          refine Ev.bind (specIntern_ev next l s (by omega)) ?_
          refine Ev.congr (fun K => by rw [e1, hw]) ?_
          exact ih (i + 1) given n' L (by omega) hD'
      refine Ev.congr (fun K => by rw [e1, if_pos rfl]) ?_
      dsimp only
      have f2 : (s.toList != s.toList) = false := by simp
      by_cases c2 : tId next l s > 0
      · refine Ev.congr (fun K => by rw [if_pos c2, if_pos (e2 c2), if_neg (by omega)]) ?_
        exact Ev.bind hT (fin _ f2)
      · refine Ev.congr (fun K => by rw [if_neg c2]) ?_
        by_cases c3 : tId next l s = 0
        · refine Ev.congr (fun K => by rw [if_pos c3, if_neg (by have := e3 c3; omega)]) ?_
          exact Ev.bind hT (fin _ f2)
        · refine Ev.congr (fun K => by rw [if_neg c3]) ?_
          exact Ev.bind hT (fin _ f2)
theorem lawFnDict_ev (c : List Int) (hc : ∀ x ∈ c, (Lit.int .u8 x).wf = true) : Ev (fun k => laws_FnDict.f k c) true := by
  unfold laws_FnDict.f
  split
  · exact Ev.now _
  · unfold impl_DictNew.f spec_DictNew.f
    refine Ev.congr (fun K => by rw [Option.bind_some, Option.bind_some]) ?_
    have h1 : VD 1 [] := ⟨by decide, by decide, by decide, fun t ht => (by cases ht), List.Pairwise.nil, List.Pairwise.nil⟩
    exact fnDict_loop c hc 40 0 0 1 [] (by omega) ⟨h1, by decide, by decide, by decide, by decide, fun t ht => (by cases ht), by decide⟩
end Go.Proofs.Ytneapgdfeegmgaa.PI
