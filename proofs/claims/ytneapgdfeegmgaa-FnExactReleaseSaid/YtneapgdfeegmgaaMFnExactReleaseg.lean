-- Made by this session's programs out of the translation and of its own texts.
import Derived.Test.YtneapgdfeegmgaaMFnExactReleasef
namespace Go.Proofs.Ytneapgdfeegmgaa.PI
open Go.RowKit Go.Proofs.YtneapgdfeegmgaaW.PrintWords Go.Proofs.YtneapgdfeegmgaaW.PrintLast Go.Proofs.YtneapgdfeegmgaaW.PrintMore
attribute [local go_sem] max2_int min2_int max_two min_two max_three min_three max_four min_four   -- for this text's walks alone
set_option linter.unusedVariables false
set_option linter.unusedSimpArgs false

/-! ### L_evDict: a text by hand -/
def cvT (l : List S67) : List S51 := l.map fun x => ⟨x.f0, x.f1, x.f2⟩
theorem szTermS_loop (l : List S67) (hL : l.length ≤ 1048576) (hF : ∀ x ∈ l, x.f1.size ≤ maxLen) : ∀ (d i : Nat) (a : Int), i + d = l.length → 0 ≤ a → a ≤ 1048576 → (∀ j, j < i → (l.getD j z67).f1.size ≤ 1048576) →
    ∃ r, Ev (fun k => laws_szTermS.l0 k l a (i : Int)) r ∧ r ≤ a ∧ (0 ≤ r → ∀ j, j < l.length → (l.getD j z67).f1.size ≤ 1048576)
  | 0, i, a, hd, h0, h1, hj => ⟨a, Ev.step (fun k => by simp only [laws_szTermS.l0]; rw [if_neg (by omega)]) (Ev.now _), by omega, fun _ j hlt => hj j (by omega)⟩
  | d + 1, i, a, hd, h0, h1, hj => by
    have hm : l.getD i z67 ∈ l := by
      rw [List.getD_eq_getElem?_getD, List.getElem?_eq_getElem (show i < l.length by omega)]
      exact List.getElem_mem _
    have hx := hF _ hm
    unfold maxLen at hx
    have e : wrap64 (a - ((l.getD i z67).f1.size : Int)) = a - (l.getD i z67).f1.size := by unfold wrap64; omega
    have hr : laws_szTerm.f (rd_T67 l (i : Int)).f0 (rd_T67 l (i : Int)).f1 (rd_T67 l (i : Int)).f2 a = some (if a - ((l.getD i z67).f1.size : Int) < 0 then -1 else a - (l.getD i z67).f1.size) := by
      unfold laws_szTerm.f rd_T67; rw [Int.toNat_natCast, e]; split <;> rfl
    by_cases c : a - ((l.getD i z67).f1.size : Int) < 0
    · rw [if_pos c] at hr
      exact ⟨-1, Ev.step (f := fun _ => some (-1)) (fun k => by simp only [laws_szTermS.l0]; rw [if_pos (by omega), if_pos (by omega), hr]; simp only [Option.bind_some]; rw [if_pos (by decide)]) (Ev.now _), by omega, by omega⟩
    · rw [if_neg c] at hr
      obtain ⟨r2, he, h4, h5⟩ := szTermS_loop l hL hF d (i + 1) (a - (l.getD i z67).f1.size) (by omega) (by omega) (by omega) (fun j hlt => by
        rcases Nat.lt_or_ge j i with h | h
        · exact hj j h
        · obtain rfl : j = i := by omega
          omega)
      exact ⟨r2, Ev.step (fun k => by simp only [laws_szTermS.l0]; rw [if_pos (by omega), if_pos (by omega), hr]; simp only [Option.bind_some]; rw [if_neg c, show wrap64 ((i : Int) + 1) = ((i + 1 : Nat) : Int) by unfold wrap64; omega]) he, by omega, h5⟩
theorem szDict_ev (n : Int) (l : List S67) (hL : l.length ≤ maxLen) (hF : ∀ x ∈ l, x.f1.size ≤ maxLen) : ∃ r, Ev (fun k => laws_szDict.f k n l 1048576) r ∧ (0 ≤ r → l.length ≤ 1048576 ∧ ∀ x ∈ l, x.f1.size ≤ 1048576) := by
  unfold maxLen at hL
  have e : wrap64 (1048576 - (l.length : Int)) = 1048576 - l.length := by unfold wrap64; omega
  by_cases c : 1048576 - (l.length : Int) < 0
  · exact ⟨-1, Ev.bind (Ev.congr (fun k => by unfold laws_szTermS.f; rw [e, if_pos c]) (Ev.now (-1))) (Ev.congr (f := fun _ => some (-1)) (fun k => by rw [if_pos (by decide)]) (Ev.now _)), by omega⟩
  · obtain ⟨r, he, h2, h3⟩ := szTermS_loop l (by omega) hF l.length 0 (1048576 - l.length) (by omega) (by omega) (by omega) (fun j h => by omega)
    have h4 : Ev (fun k => laws_szTermS.f k l 1048576) r := Ev.congr (fun k => by unfold laws_szTermS.f; rw [e, if_neg c]; rfl) he
    by_cases c2 : r < 0
    · exact ⟨-1, Ev.bind h4 (Ev.congr (f := fun _ => some (-1)) (fun k => by rw [if_pos c2]) (Ev.now _)), by omega⟩
    · refine ⟨r, Ev.bind h4 (Ev.congr (f := fun _ => some r) (fun k => by rw [if_neg c2]) (Ev.now _)), fun h => ⟨by omega, fun x hx => ?_⟩⟩
      obtain ⟨j, hj, rfl⟩ := List.getElem_of_mem hx
      have := h3 h j hj
      rwa [List.getD_eq_getElem?_getD, List.getElem?_eq_getElem hj] at this
theorem toTermS_loop (l : List S67) (hL : l.length ≤ 1048576) : ∀ (d i : Nat) (x : List S51), i + d = l.length → x.length = l.length → (∀ j, j < i → x[j]? = (cvT l)[j]?) → Ev (fun k => laws_toTermS.l0 k l x (i : Int)) (cvT l)
  | 0, i, x, hd, hx, hj => by
    obtain rfl : x = cvT l := List.ext_getElem? fun j => by
      by_cases h : j < i
      · exact hj j h
      · rw [List.getElem?_eq_none (by omega), List.getElem?_eq_none (by simp [cvT]; omega)]
    exact Ev.step (fun k => by simp only [laws_toTermS.l0]; rw [if_neg (by omega)]) (Ev.now _)
  | d + 1, i, x, hd, hx, hj => by
    refine Ev.step (fun k => by
      simp only [laws_toTermS.l0, laws_toTerm.f]
      rw [if_pos (by omega), if_pos (by omega)]
      simp only [Option.bind_some]
      rw [if_pos (by omega), Int.toNat_natCast, show wrap64 ((i : Int) + 1) = ((i + 1 : Nat) : Int) by unfold wrap64; omega])
      (toTermS_loop l hL d (i + 1) (x.set i ⟨(rd_T67 l (i : Int)).f0, (rd_T67 l (i : Int)).f1, (rd_T67 l (i : Int)).f2⟩) (by omega) (by simpa using hx) fun j hlt => ?_)
    rcases Nat.lt_or_ge j i with h | h
    · rw [List.getElem?_set_ne (by omega)]; exact hj j h
    · obtain rfl : j = i := by omega
      rw [List.getElem?_set_self (by omega)]
      simp [rd_T67, cvT, List.getD_eq_getElem?_getD, List.getElem?_eq_getElem (show j < l.length by omega)]
theorem toDict_ev (n : Int) (l : List S67) (hL : l.length ≤ 1048576) : Ev (fun k => laws_toDict.f k n l) (n, cvT l) := by
  refine Ev.bind (a := cvT l) (Ev.congr (fun k => ?_) (toTermS_loop l hL l.length 0 (List.replicate l.length z51) (by omega) (by simp) (fun j h => by omega))) (Ev.now _)
  unfold laws_toTermS.f
  rw [if_pos (by omega), Int.toNat_natCast, if_pos (by omega)]
  rfl
theorem eqTermS_loop (l : List S51) (hL : l.length ≤ 1048576) : ∀ (d i : Nat), i + d = l.length → Ev (fun k => laws_eqTermS.l0 k l l (i : Int)) true
  | 0, i, hd => Ev.step (fun k => by simp only [laws_eqTermS.l0]; rw [if_neg (by omega)]) (Ev.now _)
  | d + 1, i, hd =>
    Ev.step (fun k => by
      simp only [laws_eqTermS.l0, laws_eqTerm.f]
      rw [if_pos (by omega), if_pos (by omega), if_pos (by omega)]
      simp only [if_true, Option.bind_some]
      rw [show wrap64 ((i : Int) + 1) = ((i + 1 : Nat) : Int) by unfold wrap64; omega]) (eqTermS_loop l hL d (i + 1) (by omega))
theorem eqDict_ev (n : Int) (l : List S51) (hL : l.length ≤ 1048576) : Ev (fun k => laws_eqDict.f k n l n l) true := by
  unfold laws_eqDict.f
  refine Ev.congr (fun k => by rw [if_pos rfl]) (Ev.bind (a := true) (Ev.congr (fun k => by unfold laws_eqTermS.f; rw [if_pos rfl]; rfl) (eqTermS_loop l hL l.length 0 (by omega))) (Ev.congr (f := fun _ => some true) (fun k => by rw [if_pos rfl]) (Ev.now _)))
theorem cvT_len (l : List S67) : (cvT l).length = l.length := by simp [cvT]

/-! ### L_mark: a text by hand -/
theorem one_size (x : Int) : (strOfNums [x]).size = 1 := by unfold strOfNums; rfl
theorem markText_loop : ∀ (n : Nat) (x0 : Int) (x3 : ByteArray), 0 ≤ x0 → x0 < 10 ^ n → n ≤ 15 → x3.size + n ≤ 1000 → ∃ t, Ev (fun k => laws_markText.l0 k x0 x3) t
  | 0, x0, x3, h0, h1, hn, hs => ⟨_, Ev.step (f := fun _ => some ((⟨#[109]⟩ : ByteArray) ++ x3)) (fun K => by simp only [laws_markText.l0]; rw [if_neg (by simp at h1; omega), if_pos (by omega)]) (Ev.now _)⟩
  | n + 1, x0, x3, h0, h1, hn, hs => by
    by_cases c : x0 > 0
    · have hd : Int.tdiv x0 10 = x0 / 10 := Int.tdiv_eq_ediv_of_nonneg h0
      have hp : (10 : Int) ^ (n + 1) = 10 ^ n * 10 := Int.pow_succ 10 n
      have hb : (10 : Int) ^ n ≤ 10 ^ 14 := by
        have : n ≤ 14 := by omega
        exact_mod_cast Nat.pow_le_pow_right (by decide) this
      have hlt : x0 / 10 < 10 ^ n := by omega
      have hw : wrap64 (x0 / 10) = x0 / 10 := by
        have : (10 : Int) ^ 14 = 100000000000000 := by decide
        unfold wrap64; omega
      obtain ⟨t, ht⟩ := markText_loop n (x0 / 10) (strOfNums [(wrap64 (48 + (Int.tmod x0 10))) % 256] ++ x3) (by omega) hlt (by omega) (by rw [ByteArray.size_append, one_size]; omega)
      exact ⟨t, Ev.step (fun K => by simp only [laws_markText.l0]; rw [if_pos c, Option.bind_some, if_pos (by rw [one_size]; omega), hd, hw]) ht⟩
    · exact ⟨_, Ev.step (f := fun _ => some ((⟨#[109]⟩ : ByteArray) ++ x3)) (fun K => by simp only [laws_markText.l0]; rw [if_neg c, if_pos (by omega)]) (Ev.now _)⟩
theorem markText_ex (a : Int) (h0 : 0 ≤ a) (h1 : a < 1000000000000000) : ∃ t, Ev (fun k => laws_markText.f k a) t := by
  unfold laws_markText.f
  by_cases c : a ≤ 0
  · exact ⟨_, Ev.congr (fun K => by rw [if_pos c]) (Ev.now _)⟩
  · have e : (10 : Int) ^ 15 = 1000000000000000 := by decide
    obtain ⟨t, ht⟩ := markText_loop 15 a ⟨#[]⟩ h0 (by omega) (by omega) (by decide)
    exact ⟨t, Ev.congr (fun K => by rw [if_neg c]) ht⟩
open Classical in
noncomputable def mkTx (a : Int) : ByteArray := if h : ∃ t, Ev (fun k => laws_markText.f k a) t then h.choose else ⟨#[]⟩
theorem mkTx_ev (a : Int) (h0 : 0 ≤ a) (h1 : a < 1000000000000000) : Ev (fun k => laws_markText.f k a) (mkTx a) := by
  unfold mkTx
  have h := markText_ex a h0 h1
  rw [dif_pos h]
  exact h.choose_spec
noncomputable def mkL : Int → List S51 → List S51
  | _, [] => []
  | a, _ :: r => ⟨a, mkTx (a + 1), a + 2⟩ :: mkL (a + 3) r
theorem mkL_length : ∀ (l : List S51) (a : Int), (mkL a l).length = l.length
  | [], _ => rfl
  | _ :: r, a => congrArg (· + 1) (mkL_length r (a + 3))
theorem rd_midT (pre : List S51) (x : S51) (rest : List S51) : rd_T51 (pre ++ x :: rest) (pre.length : Int) = x := by unfold rd_T51; rw [Int.toNat_natCast, List.getD_eq_getElem?_getD, List.getElem?_append_right (Nat.le_refl _)]; simp
theorem set_midT {α : Type} (pre : List α) (x y : α) (rest : List α) : (pre ++ x :: rest).set (pre.length : Int).toNat y = pre ++ y :: rest := by rw [Int.toNat_natCast, List.set_append_right _ _ (Nat.le_refl _)]; simp
theorem markTermS_loop : ∀ (rest pre : List S51) (a : Int), 0 ≤ a → a + 3 * (rest.length : Int) ≤ 100000000000 → pre.length + rest.length ≤ 100000000 → Ev (fun k => laws_markTermS.l0 k (pre ++ rest) a (pre.length : Int)) (a + 3 * (rest.length : Int), pre ++ mkL a rest)
  | [], pre, a, h0, h1, h2 => by
    have e : (a + 3 * (([] : List S51).length : Int), pre ++ mkL a []) = (a, pre) := by simp [mkL]
    rw [e, List.append_nil]
    exact Ev.step (f := fun _ => some (a, pre)) (fun K => by simp only [laws_markTermS.l0]; rw [if_neg (by omega)]) (Ev.now _)
  | x :: r, pre, a, h0, h1, h2 => by
    have hl : ((x :: r).length : Int) = (r.length : Int) + 1 := by simp
    have hl2 : (x :: r).length = r.length + 1 := rfl
    rw [hl] at h1
    rw [hl2] at h2
    have ih := markTermS_loop r (pre ++ [⟨a, mkTx (a + 1), a + 2⟩]) (a + 3) (by omega) (by omega) (by simp; omega)
    have e : (a + 3 * ((x :: r).length : Int), pre ++ mkL a (x :: r)) = (a + 3 + 3 * (r.length : Int), pre ++ [(⟨a, mkTx (a + 1), a + 2⟩ : S51)] ++ mkL (a + 3) r) := by
      rw [hl]; simp [mkL]; omega
    rw [e]
    have w1 : wrap64 (a + 1) = a + 1 := by unfold wrap64; omega
    have w2 : wrap64 (a + 1 + 1) = a + 2 := by unfold wrap64; omega
    have w3 : wrap64 (a + 2 + 1) = a + 3 := by unfold wrap64; omega
    have w4 : wrap64 ((pre.length : Int) + 1) = ((pre ++ [(⟨a, mkTx (a + 1), a + 2⟩ : S51)]).length : Int) := by simp; unfold wrap64; omega
    refine Ev.step (fun K => by simp only [laws_markTermS.l0]; rw [if_pos (by simp; omega), if_pos (by omega)]) ?_
    refine Ev.bind (Ev.now _) ?_
    simp only [rd_midT, set_midT, w1]
    refine Ev.bind (mkTx_ev (a + 1) (by omega) (by omega)) ?_
    refine Ev.bind (Ev.now _) ?_
    simp only [rd_midT, set_midT, w2, w3, w4]
    simp only [List.append_assoc, List.singleton_append] at ih ⊢
    exact ih
theorem heldTermS_loop : ∀ (rest pre : List S51) (a : Int), 0 ≤ a → a + 3 * (rest.length : Int) ≤ 100000000000 → pre.length + rest.length ≤ 100000000 → Ev (fun k => laws_heldTermS.l0 k (pre ++ mkL a rest) a (pre.length : Int)) (a + 3 * (rest.length : Int))
  | [], pre, a, h0, h1, h2 => by
    rw [show mkL a [] = [] from rfl, List.append_nil, show a + 3 * (([] : List S51).length : Int) = a by simp]
    exact Ev.step (f := fun _ => some a) (fun K => by simp only [laws_heldTermS.l0]; rw [if_neg (by omega)]) (Ev.now _)
  | x :: r, pre, a, h0, h1, h2 => by
    have hl : ((x :: r).length : Int) = (r.length : Int) + 1 := by simp
    have hl2 : (x :: r).length = r.length + 1 := rfl
    rw [hl] at h1
    rw [hl2] at h2
    have ih := heldTermS_loop r (pre ++ [⟨a, mkTx (a + 1), a + 2⟩]) (a + 3) (by omega) (by omega) (by simp; omega)
    rw [hl, show a + 3 * ((r.length : Int) + 1) = a + 3 + 3 * (r.length : Int) by omega, show mkL a (x :: r) = ⟨a, mkTx (a + 1), a + 2⟩ :: mkL (a + 3) r from rfl]
    have w1 : wrap64 (a + 1) = a + 1 := by unfold wrap64; omega
    have w2 : wrap64 (a + 1 + 1) = a + 2 := by unfold wrap64; omega
    have w3 : wrap64 (a + 2 + 1) = a + 3 := by unfold wrap64; omega
    have w4 : wrap64 ((pre.length : Int) + 1) = ((pre ++ [(⟨a, mkTx (a + 1), a + 2⟩ : S51)]).length : Int) := by simp; unfold wrap64; omega
    refine Ev.step (fun K => by simp only [laws_heldTermS.l0]; rw [if_pos (by simp; omega), if_pos (by omega)]) ?_
    simp only [rd_midT, w1, w2, w3, w4, if_true]
    refine Ev.bind (mkTx_ev (a + 1) (by omega) (by omega)) ?_
    simp only [if_true]
    rw [List.append_assoc] at ih
    exact ih
theorem markDictRes_ev (b : Bool) (i n : Int) (l : List S51) (hL : l.length ≤ 1048576) : Ev (fun k => laws_markDictRes.f k b i n l 1) (1 + 3 * (l.length : Int), mkL 1 l) := by
  unfold laws_markDictRes.f laws_markDict.f laws_markTermS.f
  have h := markTermS_loop l [] 1 (by decide) (by omega) (by simp; omega)
  exact Ev.bind (Ev.bind (by simpa using h) (Ev.now _)) (Ev.now _)
theorem markDict_ev (n : Int) (l : List S51) (hL : l.length ≤ 1048576) : Ev (fun k => laws_markDict.f k n l 1) (1 + 3 * (l.length : Int), mkL 1 l) := by
  unfold laws_markDict.f laws_markTermS.f
  have h := markTermS_loop l [] 1 (by decide) (by omega) (by simp; omega)
  exact Ev.bind (by simpa using h) (Ev.now _)
theorem heldDictRes_ev (b : Bool) (i n : Int) (l : List S51) (hL : l.length ≤ 1048576) : Ev (fun k => laws_heldDictRes.f k b i n (mkL 1 l) 1) (1 + 3 * (l.length : Int)) := by
  unfold laws_heldDictRes.f laws_heldDict.f laws_heldTermS.f
  have h := heldTermS_loop l [] 1 (by decide) (by omega) (by simp; omega)
  refine Ev.bind (Ev.bind (by simpa using h) (Ev.congr (fun K => by rw [if_neg (by omega)]) (Ev.now _))) (Ev.congr (fun K => by rw [if_neg (by omega)]) (Ev.now _))
theorem eqDictRes_ev (b : Bool) (i n : Int) (l : List S51) (hL : l.length ≤ 1048576) : Ev (fun k => laws_eqDictRes.f k b i n l b i n l) true := by
  unfold laws_eqDictRes.f
  refine Ev.congr (fun K => by rw [if_neg (by simp), if_pos rfl]) (Ev.bind (eqDict_ev n l hL) (Ev.congr (fun K => by rw [if_pos rfl]) (Ev.now _)))

/-! ### L_zlawRelease: a text by hand -/
theorem sRelease_len (n : Int) (c : List S51) (id : Int) (h : c.length ≤ 1048576) : (sRelease n c id).2.2.2.length ≤ 1048576 := by
  by_cases hv : vT n c = true
  · cases hi : rRes c id with
    | none => rw [sRelease_no (Or.inr hi)]; exact h
    | some l' =>
      rw [sRelease_yes hv hi]
      have := (rRes_facts hv hi).2
      show l'.length ≤ 1048576
      omega
  · rw [sRelease_no (Or.inl (by simpa using hv))]; exact h
theorem lawRelease_ev (n : Int) (l : List S67) (id : Int) (hL : l.length ≤ maxLen) (hF : ∀ x ∈ l, x.f1.size ≤ maxLen) : Ev (fun k => laws_FnExactRelease.f k n l id) true := by
  unfold laws_FnExactRelease.f
  obtain ⟨r, hr, hr2⟩ := szDict_ev n l hL hF
  refine Ev.bind hr ?_
  by_cases c2 : r < 0
  · exact Ev.congr (fun K => by rw [if_pos c2]) (Ev.now _)
  refine Ev.congr (fun K => by rw [if_neg c2]) ?_
  obtain ⟨hl, _⟩ := hr2 (by omega)
  have hc : (cvT l).length ≤ 1048576 := by rw [cvT_len]; exact hl
  have hd := toDict_ev n l hl
  have hs := specRelease_ev n (cvT l) id (by omega)
  have hR := sRelease_len n (cvT l) id hc
  refine Ev.bind hd ?_
  refine Ev.bind hs ?_
  refine Ev.bind hd ?_
  refine Ev.bind hs ?_
  refine Ev.bind (eqDictRes_ev _ _ _ _ hR) ?_
  refine Ev.congr (fun K => by rw [if_pos rfl]) ?_
  refine Ev.bind hd ?_
  refine Ev.bind (eqDict_ev _ _ hc) ?_
  refine Ev.congr (fun K => by rw [if_pos rfl]) ?_
  refine Ev.bind (markDict_ev _ _ hc) ?_
  refine Ev.congr (fun K => by rw [if_neg (by omega)]) ?_
  refine Ev.bind (eqDictRes_ev _ _ _ _ hR) ?_
  refine Ev.step (fun K => by simp only [laws_FnExactRelease.j0]; rw [if_neg (by decide)]) ?_
  refine Ev.bind (markDictRes_ev _ _ _ _ hR) ?_
  refine Ev.bind (heldDictRes_ev _ _ _ _ hR) ?_
  refine Ev.congr (fun K => by rw [if_neg (by omega), if_pos rfl]) ?_
  refine Ev.bind hd ?_
  refine Ev.bind hs ?_
  refine Ev.bind (eqDictRes_ev _ _ _ _ hR) ?_
  exact Ev.congr (fun K => by rw [if_pos rfl]) (Ev.now _)

/-! ### zmain_Release: a text by hand -/
theorem main_Release (n : Int) (A : Option Addr) (c : Nat) (l : List S67) (id : Int)
    (F : (Lit.int .i64 n).wf = true ∧ (l.length ≤ maxLen ∧ ∀ x ∈ l, (Lit.int .i64 x.f0).wf = true ∧ x.f1.size ≤ maxLen ∧ (Lit.int .i64 x.f2).wf = true)) (_F1 : (Lit.int .i64 id).wf = true)
    (w : World) (hr : Kd.C k67 w A l.length l) (hc : l.length ≤ c) :
    Calls Try.prog 7 #[.agg #[.int .i64 n, .slice A l.length c], .int .i64 id] w fun e w' => e = .returned (.bool true) ∧ Below w.heap.size w w' := by
  obtain ⟨k, hk⟩ := (lawRelease_ev n l id F.2.1 (fun x hx => (F.2.2 x hx).2.1)).rounds
  exact laws_FnExactRelease.calls k n A c l id true w hr hc hk
end Go.Proofs.Ytneapgdfeegmgaa.PI
