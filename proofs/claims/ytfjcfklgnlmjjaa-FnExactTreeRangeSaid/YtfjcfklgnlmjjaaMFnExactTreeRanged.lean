-- Made by this session's programs out of the translation and of its own texts.
import Derived.Test.YtfjcfklgnlmjjaaMFnExactTreeRangec
namespace Go.Proofs.Ytfjcfklgnlmjjaa.PB
open Go.RowKit Go.Proofs.YtfjcfklgnlmjjaaW.PrintWords Go.Proofs.YtfjcfklgnlmjjaaW.PrintLast Go.Proofs.YtfjcfklgnlmjjaaW.PrintMore
attribute [local go_sem] max2_int min2_int max_two min_two max_three min_three max_four min_four   -- for this text's walks alone
set_option linter.unusedVariables false
set_option linter.unusedSimpArgs false

/-! ### mk_tree: a text by hand -/
-- the marks of a tree and of a row of strings, and what is held
theorem laws_markStringS.own (k lo hi : Nat) (v : Value) (l : List ByteArray) (m0 m1 : Int) (l' : List ByteArray) (w0 w : World) {ok : Nat → Prop} (hle : w0.heap.size ≤ lo) (hB : Below w0.heap.size w0 w)
   (ho : Kd.R Kd.string 9 w w0.heap.size (fun k => (lo ≤ k ∧ k < hi) ∧ ok k) v l) (h : laws_markStringS.f k l m0 = some (m1, l')) :
   Calls Try.prog 24 #[v, .int .i64 m0] w fun e w' => e = .returned (.int .i64 m1) ∧ Kd.R Kd.string 9 w' w0.heap.size (fun k => (lo ≤ k ∧ k < hi) ∧ ok k) v l' ∧ Below w0.heap.size w0 w' ∧ Kept w w' (fun k => lo ≤ k ∧ k < hi) :=
 (laws_markStringS.calls k (fun k => (lo ≤ k ∧ k < hi) ∧ ok k) v l m0 m1 l' w0 w hB ho h).mono fun e w' hh => ⟨hh.1, Kd.R_reok rfl hh.2.1 (fun k hk => ho.1 k hk), hh.2.2.1, hh.2.2.2.mono (fun k hk => hk.1)⟩
set_option maxHeartbeats 1000000 in
set_option maxRecDepth 100000 in
theorem laws_markTree.own (k lo hi : Nat) (v : Value) (l : List S90) (m0 m1 : Int) (l' : List S90) (w0 w : World) {ok : Nat → Prop} (hle : w0.heap.size ≤ lo) (hB : Below w0.heap.size w0 w)
  (ho : Kd.S k90 90 w w0.heap.size (fun k => (lo ≤ k ∧ k < hi) ∧ ok k) v l) (h : laws_markTNodeS.f k l m0 = some (m1, l')) :
  Calls Try.prog 13 #[.agg #[v], .int .i64 m0] w fun e w' => e = .returned (.int .i64 m1) ∧ Kd.S k90 90 w' w0.heap.size (fun k => ((lo ≤ k ∧ k < hi) ∧ ok k) ∨ w.heap.size ≤ k) v l' ∧ Below w0.heap.size w0 w' ∧ Kept w w' (fun k => lo ≤ k ∧ k < hi) := by
 have H1 := Aside0.mk h
 have HB := Aside0.mk hB
 have HO := Aside0.mk ho
 clear h hB ho
 have hu := Try.underlying24
 obtain ⟨A0, c0, rfl⟩ := Kd.S_slice HO.out
 go_enter Try.func13, Try.ntmps13
 go_wp2_with fail
 have hS := Kd.S_mono (ok' := fun k => ((lo ≤ k ∧ k < hi) ∧ ok k) ∧ k < w.heap.size) (Kd.S_bound HO.out) (fun k hk => ⟨hk.1, hk.2.2.1⟩)
 refine (laws_markTNodeS.calls k (fun k => ((lo ≤ k ∧ k < hi) ∧ ok k) ∧ k < w.heap.size) _ _ _ m1 l' w0 _ (below_allocB HB.out HB.out.size _) (Kd.S_alloc hS _) H1.out).mono ?_
 rintro e w1 ⟨rfl, hS1, hB1, hK1⟩
 have n1 := Aside0.mk (Kd.S_mono (ok' := fun k => ((lo ≤ k ∧ k < hi) ∧ ok k) ∨ w.heap.size ≤ k) hS1 (fun k hk => hk.imp (fun h => h.1) (fun h => by simp at h; omega)))
 have n2 := Aside0.mk hB1
 have n3 := Aside0.mk (show Kept w w1 (fun k => lo ≤ k ∧ k < hi) from (Kept.alloc (Kept.refl w _) _).then_ hK1 (fun k hk => .inl hk.1.1))
 clear hS hS1 hB1 hK1
 go_wp2
 go_ret
 exact ⟨rfl, n1.out, n2.out, n3.out⟩
theorem one_size (x : Int) : (strOfNums [x]).size = 1 := by unfold strOfNums; rfl
theorem markText_loop : ∀ (n : Nat) (x0 : Int) (x3 : ByteArray), 0 ≤ x0 → x0 < 10 ^ n → n ≤ 15 → x3.size + n ≤ 1000 → ∃ t, Ev (fun k => laws_markText.l0 k x0 x3) t
 | 0, x0, x3, h0, h1, hn, hs => ⟨_, Ev.step (f := fun _ => some ((⟨#[109]⟩ : ByteArray) ++ x3)) (fun K => by simp only [laws_markText.l0]; rw [if_neg (by simp at h1; omega), if_pos (by omega)]) (Ev.now _)⟩
 | n + 1, x0, x3, h0, h1, hn, hs => by
   by_cases c : x0 > 0
   ·have hd : Int.tdiv x0 10 = x0 / 10 := Int.tdiv_eq_ediv_of_nonneg h0
    have hp : (10 : Int) ^ (n + 1) = 10 ^ n * 10 := Int.pow_succ 10 n
    have hb : (10 : Int) ^ n ≤ 10 ^ 14 := by
     have : n ≤ 14 := by omega
     exact_mod_cast Nat.pow_le_pow_right (by decide) this
    have hlt : x0 / 10 < 10 ^ n := by omega
    have hw : wrap64 (x0 / 10) = x0 / 10 := by
     have : (10 : Int) ^ 14 = 100000000000000 := by decide
     unfold wrap64; omega
    obtain ⟨t, ht⟩ := markText_loop n (x0 / 10) (strOfNums [(wrap64 (48 + (Int.tmod x0 10))) % 256] ++ x3) (by omega) hlt (by omega) (by rw [ByteArray.size_append, one_size]; omega)
    exact ⟨t, Ev.step (fun K => by simp only [laws_markText.l0]; rw [if_pos c, Option.bind_some, if_pos (by rw [one_size]; omega), hd, hw]) ht⟩
   ·exact ⟨_, Ev.step (f := fun _ => some ((⟨#[109]⟩ : ByteArray) ++ x3)) (fun K => by simp only [laws_markText.l0]; rw [if_neg c, if_pos (by omega)]) (Ev.now _)⟩
theorem markText_ex (a : Int) (h0 : 0 ≤ a) (h1 : a < 1000000000000000) : ∃ t, Ev (fun k => laws_markText.f k a) t := by
 unfold laws_markText.f
 by_cases c : a ≤ 0
 ·exact ⟨_, Ev.congr (fun K => by rw [if_pos c]) (Ev.now _)⟩
 ·have e : (10 : Int) ^ 15 = 1000000000000000 := by decide
  obtain ⟨t, ht⟩ := markText_loop 15 a ⟨#[]⟩ h0 (by omega) (by omega) (by decide)
  exact ⟨t, Ev.congr (fun K => by rw [if_neg c]) ht⟩
open Classical in
noncomputable def mkTx (a : Int) : ByteArray := if h : ∃ t, Ev (fun k => laws_markText.f k a) t then h.choose else ⟨#[]⟩
theorem mkTx_ev (a : Int) (h0 : 0 ≤ a) (h1 : a < 1000000000000000) : Ev (fun k => laws_markText.f k a) (mkTx a) := by
 unfold mkTx
 have h := markText_ex a h0 h1
 rw [dif_pos h]
 exact h.choose_spec
noncomputable def mkS : Int → List ByteArray → List ByteArray
 | _, [] => []
 | a, _ :: r => mkTx a :: mkS (a + 1) r
def mkI : Int → List Int → List Int
 | _, [] => []
 | a, _ :: r => a :: mkI (a + 1) r
noncomputable def mkT : Int → List S90 → Int × List S90
 | a, [] => (a, [])
 | a, x :: r => ((mkT (a + 2 + x.f1.length + x.f2.length) r).1, ⟨decide (Int.tmod a 3 = 0), mkS (a + 1) x.f1, mkI (a + 1 + x.f1.length) x.f2, a + 1 + x.f1.length + x.f2.length⟩ :: (mkT (a + 2 + x.f1.length + x.f2.length) r).2)
theorem set_midT {α : Type} (pre : List α) (x y : α) (rest : List α) : (pre ++ x :: rest).set (pre.length : Int).toNat y = pre ++ y :: rest := by rw [Int.toNat_natCast, List.set_append_right _ _ (Nat.le_refl _)]; simp
theorem markS_loop : ∀ (rest pre : List ByteArray) (a : Int), 0 ≤ a → a + rest.length ≤ 100000000000000 → pre.length + rest.length ≤ 1000000000 → Ev (fun k => laws_markStringS.l0 k (pre ++ rest) a (pre.length : Int)) (a + rest.length, pre ++ mkS a rest)
 | [], pre, a, h0, h1, h2 => by
   have e : (a + (([] : List ByteArray).length : Int), pre ++ mkS a []) = (a, pre) := by simp [mkS]
   rw [e, List.append_nil]
   exact Ev.step (f := fun _ => some (a, pre)) (fun K => by simp only [laws_markStringS.l0]; rw [if_neg (by omega)]) (Ev.now _)
 | x :: r, pre, a, h0, h1, h2 => by
   have hl : ((x :: r).length : Int) = (r.length : Int) + 1 := by simp
   have hl2 : (x :: r).length = r.length + 1 := rfl
   rw [hl] at h1
   rw [hl2] at h2
   have ih := markS_loop r (pre ++ [mkTx a]) (a + 1) (by omega) (by omega) (by simp; omega)
   have e : (a + ((x :: r).length : Int), pre ++ mkS a (x :: r)) = (a + 1 + (r.length : Int), pre ++ [mkTx a] ++ mkS (a + 1) r) := by
    rw [hl]; simp [mkS]; omega
   rw [e]
   have w1 : wrap64 (a + 1) = a + 1 := by unfold wrap64; omega
   have w4 : wrap64 ((pre.length : Int) + 1) = ((pre ++ [mkTx a]).length : Int) := by simp; unfold wrap64; omega
   refine Ev.step (fun K => by simp only [laws_markStringS.l0]; rw [if_pos (by simp; omega)]) ?_
   refine Ev.bind (mkTx_ev a h0 (by omega)) ?_
   refine Ev.congr (fun K => by rw [if_pos (by omega), set_midT, w1, w4]) ?_
   simp only [List.append_assoc, List.singleton_append] at ih ⊢
   exact ih
theorem markS_ev (l : List ByteArray) (a : Int) (h0 : 0 ≤ a) (h1 : a + l.length ≤ 100000000000000) (h2 : l.length ≤ 1000000000) : Ev (fun k => laws_markStringS.f k l a) (a + l.length, mkS a l) := markS_loop l [] a h0 h1 (by simp; omega)
theorem heldS_loop : ∀ (rest pre : List ByteArray) (a : Int), 0 ≤ a → a + rest.length ≤ 100000000000000 → pre.length + rest.length ≤ 1000000000 → Ev (fun k => laws_heldStringS.l0 k (pre ++ mkS a rest) a (pre.length : Int)) (a + rest.length)
 | [], pre, a, h0, h1, h2 => by
   rw [show mkS a [] = [] from rfl, List.append_nil, show a + (([] : List ByteArray).length : Int) = a by simp]
   exact Ev.step (f := fun _ => some a) (fun K => by simp only [laws_heldStringS.l0]; rw [if_neg (by omega)]) (Ev.now _)
 | x :: r, pre, a, h0, h1, h2 => by
   have hl : ((x :: r).length : Int) = (r.length : Int) + 1 := by simp
   have hl2 : (x :: r).length = r.length + 1 := rfl
   rw [hl] at h1
   rw [hl2] at h2
   have ih := heldS_loop r (pre ++ [mkTx a]) (a + 1) (by omega) (by omega) (by simp; omega)
   rw [hl, show a + ((r.length : Int) + 1) = a + 1 + (r.length : Int) by omega, show mkS a (x :: r) = mkTx a :: mkS (a + 1) r from rfl]
   have w1 : wrap64 (a + 1) = a + 1 := by unfold wrap64; omega
   have w4 : wrap64 ((pre.length : Int) + 1) = ((pre ++ [mkTx a]).length : Int) := by simp; unfold wrap64; omega
   have hr : rdOf ByteArray.empty (pre ++ mkTx a :: mkS (a + 1) r) (pre.length : Int) = mkTx a := by
    rw [rdb_at _ _ (by simp)]
    simp
   refine Ev.step (fun K => by simp only [laws_heldStringS.l0]; rw [if_pos (by simp; omega), if_pos (by omega)]) ?_
   refine Ev.bind (mkTx_ev a h0 (by omega)) ?_
   refine Ev.congr (fun K => by rw [hr, if_pos rfl, w1, w4]) ?_
   rw [List.append_assoc] at ih
   exact ih
theorem heldS_ev (l : List ByteArray) (a : Int) (h0 : 0 ≤ a) (h1 : a + l.length ≤ 100000000000000) (h2 : l.length ≤ 1000000000) : Ev (fun k => laws_heldStringS.f k (mkS a l) a) (a + l.length) := heldS_loop l [] a h0 h1 (by simp; omega)
theorem markI_loop : ∀ (rest pre : List Int) (a : Int), 0 ≤ a → a + rest.length ≤ 100000000000000 → pre.length + rest.length ≤ 1000000000 → Ev (fun k => laws_markInt64S.l0 k (pre ++ rest) a (pre.length : Int)) (a + rest.length, pre ++ mkI a rest)
 | [], pre, a, h0, h1, h2 => by
   have e : (a + (([] : List Int).length : Int), pre ++ mkI a []) = (a, pre) := by simp [mkI]
   rw [e, List.append_nil]
   exact Ev.step (f := fun _ => some (a, pre)) (fun K => by simp only [laws_markInt64S.l0]; rw [if_neg (by omega)]) (Ev.now _)
 | x :: r, pre, a, h0, h1, h2 => by
   have hl : ((x :: r).length : Int) = (r.length : Int) + 1 := by simp
   have hl2 : (x :: r).length = r.length + 1 := rfl
   rw [hl] at h1
   rw [hl2] at h2
   have ih := markI_loop r (pre ++ [a]) (a + 1) (by omega) (by omega) (by simp; omega)
   have e : (a + ((x :: r).length : Int), pre ++ mkI a (x :: r)) = (a + 1 + (r.length : Int), pre ++ [a] ++ mkI (a + 1) r) := by
    rw [hl]; simp [mkI]; omega
   rw [e]
   have w1 : wrap64 (a + 1) = a + 1 := by unfold wrap64; omega
   have w4 : wrap64 ((pre.length : Int) + 1) = ((pre ++ [a]).length : Int) := by simp; unfold wrap64; omega
   refine Ev.step (fun K => by simp only [laws_markInt64S.l0]; rw [if_pos (by simp; omega), if_pos (by omega), set_midT, w1, w4]) ?_
   simp only [List.append_assoc, List.singleton_append] at ih ⊢
   exact ih
theorem markI_ev (l : List Int) (a : Int) (h0 : 0 ≤ a) (h1 : a + l.length ≤ 100000000000000) (h2 : l.length ≤ 1000000000) : Ev (fun k => laws_markInt64S.f k l a) (a + l.length, mkI a l) := markI_loop l [] a h0 h1 (by simp; omega)
theorem mkT_bd : ∀ (l : List S90), (∀ x ∈ l, x.f1.length ≤ 1048576 ∧ x.f2.length ≤ 1048576) → ∀ a : Int, a ≤ (mkT a l).1 ∧ (mkT a l).1 ≤ a + 2097154 * l.length
 | [], _, a => by simp [mkT]
 | x :: r, hl, a => by
   have h := mkT_bd r (fun y hy => hl y (List.mem_cons_of_mem _ hy)) (a + 2 + x.f1.length + x.f2.length)
   have hx := hl x List.mem_cons_self
   simp only [mkT, List.length_cons]
   omega
theorem markT_loop : ∀ (rest pre : List S90), (∀ x ∈ rest, x.f1.length ≤ 1048576 ∧ x.f2.length ≤ 1048576) → ∀ (a : Int), 0 ≤ a → a + 2097154 * rest.length ≤ 100000000000000 → pre.length + rest.length ≤ 1000000000 → Ev (fun k => laws_markTNodeS.l0 k (pre ++ rest) a (pre.length : Int)) ((mkT a rest).1, pre ++ (mkT a rest).2)
 | [], pre, _, a, h0, h1, h2 => by
   rw [show ((mkT a []).1, pre ++ (mkT a []).2) = (a, pre) by simp [mkT], List.append_nil]
   exact Ev.step (f := fun _ => some (a, pre)) (fun K => by simp only [laws_markTNodeS.l0]; rw [if_neg (by omega)]) (Ev.now _)
 | x :: r, pre, hl, a, h0, h1, h2 => by
   have hx := hl x List.mem_cons_self
   rw [List.length_cons] at h1 h2
   obtain ⟨y, hy⟩ : ∃ y : S90, y = ⟨decide (Int.tmod a 3 = 0), mkS (a + 1) x.f1, mkI (a + 1 + x.f1.length) x.f2, a + 1 + x.f1.length + x.f2.length⟩ := ⟨_, rfl⟩
   have ih := markT_loop r (pre ++ [y]) (fun z hz => hl z (List.mem_cons_of_mem _ hz)) (a + 2 + x.f1.length + x.f2.length) (by omega) (by omega) (by simp; omega)
   have e : ((mkT a (x :: r)).1, pre ++ (mkT a (x :: r)).2) = ((mkT (a + 2 + x.f1.length + x.f2.length) r).1, pre ++ [y] ++ (mkT (a + 2 + x.f1.length + x.f2.length) r).2) := by simp [mkT, hy]
   rw [e]
   have w1 : wrap64 (a + 1) = a + 1 := by unfold wrap64; omega
   have w2 : wrap64 (a + 1 + x.f1.length + x.f2.length + 1) = a + 2 + x.f1.length + x.f2.length := by unfold wrap64; omega
   have w4 : wrap64 ((pre.length : Int) + 1) = ((pre ++ [y]).length : Int) := by simp; unfold wrap64; omega
   have hr : rd_T90 (pre ++ x :: r) (pre.length : Int) = x := by
    rw [rd90_at _ _ (by simp)]
    simp
   refine Ev.step (fun K => by simp only [laws_markTNodeS.l0]; rw [if_pos (by simp; omega), if_pos (by omega), hr, w1]) ?_
   refine Ev.bind (markS_ev x.f1 (a + 1) (by omega) (by omega) (by omega)) ?_
   refine Ev.bind (markI_ev x.f2 (a + 1 + x.f1.length) (by omega) (by omega) (by omega)) ?_
   refine Ev.congr (fun K => by rw [set_midT, ← hy, w2, w4]) ?_
   simp only [List.append_assoc, List.singleton_append] at ih ⊢
   exact ih
theorem markT_ev (l : List S90) (hl : ∀ x ∈ l, x.f1.length ≤ 1048576 ∧ x.f2.length ≤ 1048576) (h : l.length ≤ 1048576) : Ev (fun k => laws_markTNodeS.f k l 1) ((mkT 1 l).1, (mkT 1 l).2) := markT_loop l [] hl 1 (by decide) (by omega) (by simp; omega)
theorem eqS_loop (l : List ByteArray) (hL : l.length ≤ 1000000000) : ∀ (d i : Nat), i + d = l.length → Ev (fun k => laws_eqStringS.l0 k l l (i : Int)) true
 | 0, i, hd => Ev.step (f := fun _ => some true) (fun k => by show laws_eqStringS.l0 (k + 1) l l (i : Int) = _; rw [laws_eqStringS.l0, if_neg (by omega)]) (Ev.now _)
 | d + 1, i, hd => Ev.step (f := fun k => laws_eqStringS.l0 k l l ((i + 1 : Nat) : Int)) (fun k => by show laws_eqStringS.l0 (k + 1) l l (i : Int) = _; rw [laws_eqStringS.l0, if_pos (by omega), if_pos (by omega), if_pos (by omega), if_pos rfl, show wrap64 ((i : Int) + 1) = ((i + 1 : Nat) : Int) by unfold wrap64; omega]) (eqS_loop l hL d (i + 1) (by omega))
theorem eqS_ev (l : List ByteArray) (hL : l.length ≤ 1000000000) : Ev (fun k => laws_eqStringS.f k l l) true := Ev.congr (fun k => by unfold laws_eqStringS.f; rw [if_pos rfl]; rfl) (eqS_loop l hL l.length 0 (by omega))

/-! ### zs_nest: a text by hand -/
-- uses results_three blk_cells3
-- import Derived.Laws.ResultCell
-- import Derived.StillTailTactics
set_option maxHeartbeats 4000000 in
set_option maxRecDepth 100000 in
theorem l3Nest_bad {A : Option Addr} {n c : Nat} {i dep : Int} {W : World} (hb : i < 0 ∨ (n : Int) ≤ i ∨ 20 < dep) :
  Calls Try.prog 66 #[.slice A n c, .int .i64 i, .int .i64 dep] W fun e W' => e = .returned (.tuple #[.agg #[.bool false, .slice none 0 0, .slice none 0 0], .int .i64 i, .bool false]) ∧ Below W.heap.size W W' := by
 have hb0 : Below W.heap.size W (W.alloc (.cells #[.bool false, .slice none 0 0, .slice none 0 0] 56)) := below_alloc (Below.refl _ _) _
 have K6 := Aside0.mk (blk_new W (.cells #[.bool false, .slice none 0 0, .slice none 0 0] 56))
 have HB := Aside0.mk hb0
 have hu56 := Try.underlying56
 clear hb0
 go_enter Try.func66, Try.ntmps66
 go_upto_region 1 with (fail)
 generalize (W.alloc (.cells #[.bool false, .slice none 0 0, .slice none 0 0] 56)) = W0 at *
 obtain ⟨m0, hm0⟩ : ∃ m0, m0 = W.heap.size := ⟨_, rfl⟩
 rw [← hm0] at K6 HB ⊢
 have HN := Aside0.mk hm0
 clear hm0
 obtain ⟨x0, x1, x2, u0, u1, u2⟩ := blk_cells3 K6.out
 obtain ⟨g1, hg⟩ : ∃ b, b = decide (i < 0) := ⟨_, rfl⟩
 obtain ⟨g2, hg2⟩ : ∃ b, b = decide ((n : Int) ≤ i) := ⟨_, rfl⟩
 obtain ⟨g3, hg3⟩ : ∃ b, b = decide (20 < dep) := ⟨_, rfl⟩
 have hx : g1 = true ∨ (g1 = false ∧ g2 = true) ∨ (g1 = false ∧ g2 = false ∧ g3 = true) := by
  subst hg hg2 hg3
  simp only [decide_eq_true_eq, decide_eq_false_iff_not]
  omega
 rcases hx with rfl | ⟨rfl, rfl⟩ | ⟨rfl, rfl, rfl⟩
 all_goals
  replace hg := hg.symm
  replace hg2 := hg2.symm
  replace hg3 := hg3.symm
  clear hb
  go_wp2_with fail
  refine bodyPost_ret (results_three rfl _ _ m0 56 _ (0, 0) _ rfl (blk_set3 K6.out) hu56 rfl (by kernel_rfl)) rfl ?_
  rw [← HN.out]
  exact ⟨rfl, below_set3 HB.out (Nat.le_refl _) _ _ _⟩

theorem FK_nilT (W : World) (ok : Nat → Prop) (b : Bool) : Kd.FK k56 W ok ⟨b, [], []⟩ [.bool b, .slice none 0 0, .slice none 0 0] :=
 k56_mkF W ok ⟨b, [], []⟩ (A1 := none) (c1 := 0) (Nat.le_refl _) (Kd.F_nil _ _ _) (A2 := none) (c2 := 0) (Nat.le_refl _) (Kd.F_nil _ _ _)
theorem nestL_cons (rec : Int → S56 × Int × Bool) (b : Bool) (k : Int) (ks : List Int) (next : Int) (acc : List S56) : nestL rec b (k :: ks) next acc = if k = next then (if (rec next).2.2 = true then nestL rec b ks (rec next).2.1 (acc ++ [(rec next).1]) else (⟨false, [], acc⟩, next, false)) else (⟨false, [], acc⟩, next, false) := rfl
theorem nest_end {n0 m0 : Nat} {r : S56 × Int × Bool} {acc : List S56} {nx : Int} {b : Bool} {W w' : World} {A3 : Option Addr} {c3 : Nat} (hr : r = (⟨false, [], acc⟩, nx, b)) (lo : n0 ≤ m0) (hN : Kd.N k56 56 w' (m0 + 3) (fun k => k < n0 ∨ m0 + 3 ≤ k) (.slice A3 acc.length c3) acc) (hB : Below m0 W w') (hm : m0 = W.heap.size) :
  ∃ v1 v2, Ending.returned (.tuple #[.agg #[.bool false, .slice none 0 0, .slice A3 acc.length c3], .int .i64 nx, .bool b]) = .returned (.tuple #[.agg #[.bool r.1.f0, v1, v2], .int .i64 r.2.1, .bool r.2.2]) ∧ Kd.FK k56 (((w'.setCell ⟨m0, 0, none⟩ (.bool false)).setCell ⟨m0, 1, none⟩ (.slice none 0 0)).setCell ⟨m0, 2, none⟩ (.slice A3 acc.length c3)) (fun k => k < n0 ∨ W.heap.size ≤ k) r.1 [.bool r.1.f0, v1, v2] ∧ Below W.heap.size W (((w'.setCell ⟨m0, 0, none⟩ (.bool false)).setCell ⟨m0, 1, none⟩ (.slice none 0 0)).setCell ⟨m0, 2, none⟩ (.slice A3 acc.length c3)) := by
 subst hr
 subst hm
 refine ⟨_, _, rfl, ?_, below_set3 hB (Nat.le_refl _) _ _ _⟩
 have h1 := Kd.N_reads' hN
 have h2 : Kd.F k56 (((w'.setCell ⟨W.heap.size, 0, none⟩ (.bool false)).setCell ⟨W.heap.size, 1, none⟩ (.slice none 0 0)).setCell ⟨W.heap.size, 2, none⟩ (.slice A3 acc.length c3)) (fun k => k < n0 ∨ W.heap.size ≤ k) A3 acc.length acc :=
  Kd.F_mono (Kd.F_step (Kd.N_F hN) (fun k hk _ => set3_other _ _ _ (by omega))) (fun k hk => by omega)
 exact k56_mkF _ _ ⟨false, [], acc⟩ (A1 := none) (c1 := 0) (Nat.le_refl _) (Kd.F_nil _ _ _) h1.2.1 h2
theorem FK_dr {α : Type} {d : Kd α} {W : World} {ok : Nat → Prop} {x : α} {cs : List Value} (h : Kd.FK d W ok x cs) : Kd.FK d W.drew ok x cs := Foot.step h (fun k _ hlt => (below_drew (Below.refl W.heap.size W)).block k hlt)
theorem nest_end2 {n0 m0 : Nat} {r : S56 × Int × Bool} {acc : List S56} {nx : Int} {b : Bool} {W w' : World} {A3 : Option Addr} {c3 : Nat} (hr : r = (⟨false, [], acc⟩, nx, b)) (lo : n0 ≤ m0) (hN : Kd.N k56 56 w' (m0 + 3) (fun k => k < n0 ∨ m0 + 3 ≤ k) (.slice A3 acc.length c3) acc) (hB : Below m0 W w') (hm : m0 = W.heap.size) :
  ∃ v1 v2, Ending.returned (.tuple #[.agg #[.bool false, .slice none 0 0, .slice A3 acc.length c3], .int .i64 nx, .bool b]) = .returned (.tuple #[.agg #[.bool r.1.f0, v1, v2], .int .i64 r.2.1, .bool r.2.2]) ∧ Kd.FK k56 (((w'.setCell ⟨m0, 0, none⟩ (.bool false)).setCell ⟨m0, 1, none⟩ (.slice none 0 0)).setCell ⟨m0, 2, none⟩ (.slice A3 acc.length c3)).drew (fun k => k < n0 ∨ W.heap.size ≤ k) r.1 [.bool r.1.f0, v1, v2] ∧ Below W.heap.size W (((w'.setCell ⟨m0, 0, none⟩ (.bool false)).setCell ⟨m0, 1, none⟩ (.slice none 0 0)).setCell ⟨m0, 2, none⟩ (.slice A3 acc.length c3)).drew := by
 obtain ⟨v1, v2, h1, h2, h3⟩ := nest_end hr lo hN hB hm
 exact ⟨v1, v2, h1, FK_dr h2, below_drew1 h3⟩
set_option maxHeartbeats 8000000 in
set_option maxRecDepth 100000 in
theorem l3Nest_any (n0 : Nat) (ns : List S90) (hl : ns.length ≤ 1048576) (hk2 : ∀ i, (rd_T90 ns i).f2.length ≤ 1048576) : ∀ (d : Nat) (dep : Int) (_ : dep + d = 21) (_ : 0 ≤ dep) (i : Int) (A : Option Addr) (c : Nat) (W : World) (_ : Kd.F k90 W (fun k => k < n0) A ns.length ns) (_ : n0 ≤ W.heap.size),
   Calls Try.prog 66 #[.slice A ns.length c, .int .i64 i, .int .i64 dep] W fun e W' => ∃ v1 v2, e = .returned (.tuple #[.agg #[.bool (nestD ns d i).1.f0, v1, v2], .int .i64 (nestD ns d i).2.1, .bool (nestD ns d i).2.2]) ∧ Kd.FK k56 W' (fun k => k < n0 ∨ W.heap.size ≤ k) (nestD ns d i).1 [.bool (nestD ns d i).1.f0, v1, v2] ∧ Below W.heap.size W W' := by
 intro d
 induction d with
 | zero =>
   intro dep hd h0 i A c W hF hn
   refine (l3Nest_bad (Or.inr (Or.inr (by omega)))).mono ?_
   rintro e W' ⟨rfl, hb⟩
   exact ⟨_, _, rfl, FK_nilT _ _ _, hb⟩
 | succ d ih =>
   intro dep hd h0 i A c W hF hn
   by_cases hin : 0 ≤ i ∧ i < (ns.length : Int)
   case neg =>
    refine (l3Nest_bad (n := ns.length) (by omega)).mono ?_
    rintro e W' ⟨rfl, hb⟩
    rw [show nestD ns (d + 1) i = (z56, i, false) by unfold nestD; rw [if_neg hin]]
    exact ⟨_, _, rfl, FK_nilT _ _ _, hb⟩
   obtain ⟨p0, p1⟩ := hin
   obtain ⟨r, hr⟩ : ∃ r, r = nestD ns (d + 1) i := ⟨_, rfl⟩
   have hr2 := hr
   unfold nestD at hr2
   rw [if_pos ⟨p0, p1⟩] at hr2
   rw [← hr]
   clear hr
   obtain ⟨nd, hnd⟩ : ∃ nd, nd = rd_T90 ns i := ⟨_, rfl⟩
   rw [← hnd] at hr2
   have HK2 := Aside0.mk (show nd.f2.length ≤ 1048576 by rw [hnd]; exact hk2 i)
   have HR := Aside0.mk hr2
   have hb0 : Below W.heap.size W (W.alloc (.cells #[.bool false, .slice none 0 0, .slice none 0 0] 56)) := below_alloc (Below.refl _ _) _
   have K6 := Aside0.mk (blk_new W (.cells #[.bool false, .slice none 0 0, .slice none 0 0] 56))
   have HZ := Aside0.mk (show (W.alloc (.cells #[.bool false, .slice none 0 0, .slice none 0 0] 56)).heap.size = W.heap.size + 1 by simp)
   have HF := Aside0.mk (Kd.F_below hF hb0)
   have HB := Aside0.mk hb0
   have HP := Aside0.mk (And.intro hd (And.intro h0 (And.intro p0 (And.intro p1 hl))))
   have HN0 := Aside0.mk hn
   have IH := Aside0.mk ih
   have hu56 := Try.underlying56
   have hu90 := Try.underlying90
   clear hr2 hb0 ih hF
   go_enter Try.func66, Try.ntmps66
   go_upto_region 1 with (fail)
   generalize (W.alloc (.cells #[.bool false, .slice none 0 0, .slice none 0 0] 56)) = W0 at *
   obtain ⟨m0, hm0⟩ : ∃ m0, m0 = W.heap.size := ⟨_, rfl⟩
   rw [← hm0] at K6 HB HZ HN0 ⊢
   have HN := Aside0.mk hm0
   clear hm0
   have g1 : decide (i < 0) = false := decide_eq_false (by omega)
   have g2 : decide ((ns.length : Int) ≤ i) = false := decide_eq_false (by omega)
   have g3 : decide (20 < dep) = false := decide_eq_false (by omega)
   obtain ⟨ad, A1, c1, A2, c2, rfl, x0, x1, x2, x3, l1, f1, l2, f2⟩ := at_F90 HF.out i p0 p1
   have p0b : decide (0 ≤ i) = true := decide_eq_true p0
   have p1b : decide (i < (ns.length : Int)) = true := decide_eq_true p1
   rw [← hnd] at x0 x1 x2 x3 l1 f1 l2 f2
   have FA := Aside0.mk f1
   have FB := Aside0.mk f2
   have HL := Aside0.mk (And.intro l1 l2)
   clear l1 f1 l2 f2 hnd hl hd h0 hn
   go_upto_region 4 with (fail)
   have hb1 := below_alloc (Below.refl _ W0) (.cells #[.bool nd.f0, .slice A1 nd.f1.length c1, .slice A2 nd.f2.length c2, .int .i64 nd.f3] 90)
   have K9 := Aside0.mk (blk_new W0 (.cells #[.bool nd.f0, .slice A1 nd.f1.length c1, .slice A2 nd.f2.length c2, .int .i64 nd.f3] 90))
   have HZ1 := Aside0.mk (show (W0.alloc (.cells #[.bool nd.f0, .slice A1 nd.f1.length c1, .slice A2 nd.f2.length c2, .int .i64 nd.f3] 90)).heap.size = m0 + 2 by simp [HZ.out])
   rw [HZ.out] at K9 ⊢
   replace K6 := Aside0.mk (blk_below K6.out hb1)
   replace HF := Aside0.mk (Kd.F_below HF.out hb1)
   replace FA := Aside0.mk (Kd.F_below FA.out hb1)
   replace FB := Aside0.mk (Kd.F_below FB.out hb1)
   replace HB := Aside0.mk (below_lo HB.out hb1 (by rw [HZ.out]; omega))
   generalize (W0.alloc (.cells #[.bool nd.f0, .slice A1 nd.f1.length c1, .slice A2 nd.f2.length c2, .int .i64 nd.f3] 90)) = W1 at *
   clear hb1 x0 x1 x2 x3 HZ
   obtain ⟨x0, x1, x2, x3, w0, w1, w2, w3⟩ := blk_cells4 K9.out
   go_upto_region 5 with (fail)
   have hb1 := below_alloc (Below.refl _ W1) (.cells #[.bool nd.f0, .slice none 0 0, .slice none 0 0] 56)
   have K10 := Aside0.mk (blk_new W1 (.cells #[.bool nd.f0, .slice none 0 0, .slice none 0 0] 56))
   have HZ2 := Aside0.mk (show (W1.alloc (.cells #[.bool nd.f0, .slice none 0 0, .slice none 0 0] 56)).heap.size = m0 + 3 by simp [HZ1.out])
   rw [HZ1.out] at K10 ⊢
   replace K6 := Aside0.mk (blk_below K6.out hb1)
   replace K9 := Aside0.mk (blk_below K9.out hb1)
   replace HF := Aside0.mk (Kd.F_below HF.out hb1)
   replace FA := Aside0.mk (Kd.F_below FA.out hb1)
   replace FB := Aside0.mk (Kd.F_below FB.out hb1)
   replace HB := Aside0.mk (below_lo HB.out hb1 (by rw [HZ1.out]; omega))
   generalize (W1.alloc (.cells #[.bool nd.f0, .slice none 0 0, .slice none 0 0] 56)) = W2 at *
   clear hb1 x0 x1 x2 x3 w0 w1 w2 w3 HZ1
   obtain ⟨x0, x1, x2, x3, w0, w1, w2, w3⟩ := blk_cells4 K9.out
   obtain ⟨z0, z1, z2, u0, u1, u2⟩ := blk_cells3 K10.out
   obtain ⟨y0, y1, y2, v0, v1, v2⟩ := blk_cells3 K6.out
   have HW1 := Aside0.mk (show wrap64 (i + 1) = i + 1 by have := HP.out; unfold wrap64; omega)
   rcases hf : nd.f0 with _ | _
   case true =>
    rw [hf] at x0 z0
    have hrr := HR.out
    rw [if_pos hf] at hrr
    subst hrr
    go_wp2_with fail
    replace K6 := Aside0.mk (blk_far K6.out (p := ⟨m0 + 2, 1, none⟩) (by simp) (.slice A1 nd.f1.length c1))
    replace K9 := Aside0.mk (blk_far K9.out (p := ⟨m0 + 2, 1, none⟩) (by simp) (.slice A1 nd.f1.length c1))
    replace K10 := Aside0.mk (show (W2.setCell ⟨m0 + 2, 1, none⟩ (.slice A1 nd.f1.length c1)).heap[m0 + 2]? = some (.cells #[.bool true, .slice A1 nd.f1.length c1, .slice none 0 0] 56 (0, 0)) by rw [← hf]; exact blk_put K10.out 1 _ rfl)
    replace FA := Aside0.mk (Kd.F_far FA.out (p := ⟨m0 + 2, 1, none⟩) (fun k hk => by have := HN0.out; show k ≠ m0 + 2; omega) (.slice A1 nd.f1.length c1))
    replace HB := Aside0.mk (show Below m0 W (W2.setCell ⟨m0 + 2, 1, none⟩ (.slice A1 nd.f1.length c1)) from HB.out.setCell (by show m0 ≤ m0 + 2; omega) _)
    clear HF FB IH
    generalize (W2.setCell ⟨m0 + 2, 1, none⟩ (.slice A1 nd.f1.length c1)) = W3 at *
    clear x0 x1 x2 x3 w0 w1 w2 w3 z0 z1 z2 u0 u1 u2 y0 y1 y2 v0 v1 v2
    obtain ⟨x0, x1, x2, x3, w0, w1, w2, w3⟩ := blk_cells4 K9.out
    obtain ⟨z0, z1, z2, u0, u1, u2⟩ := blk_cells3 K10.out
    obtain ⟨y0, y1, y2, v0, v1, v2⟩ := blk_cells3 K6.out
    go_region
    go_wp2_with fail
    try rw [HW1.out]
    refine bodyPost_ret (results_three rfl _ _ m0 56 _ (0, 0) _ rfl (blk_set3 K6.out) hu56 rfl (by kernel_rfl)) rfl ?_
    refine ⟨.slice A1 nd.f1.length c1, .slice none 0 0, ?_, ?_, ?_⟩
    rotate_left
    ·refine FK_dr (k56_mkF _ _ ⟨true, nd.f1, []⟩ HL.out.1 ?_ (A2 := none) (c2 := 0) (Nat.le_refl _) (Kd.F_nil _ _ _))
     exact Kd.F_mono (Kd.F_step FA.out (fun k hk _ => set3_other _ _ _ (by have := HN0.out; omega))) (fun k hk => Or.inl hk)
    ·rw [← HN.out]
     exact below_drew1 (below_set3 HB.out (Nat.le_refl _) _ _ _)
    ·rw [show decide (nd.f2 = []) = ((nd.f2.length : Int) == 0) by rw [Bool.eq_iff_iff]; simp]
     rfl
   case false =>
    rw [hf] at x0 z0
    have hrr := HR.out
    rw [if_neg (by rw [hf]; decide)] at hrr
    replace K10 := Aside0.mk (show W2.heap[m0 + 2]? = some (.cells #[.bool false, .slice none 0 0, .slice none 0 ([] : List S56).length] 56 (0, 0)) by rw [← hf]; exact K10.out)
    have HQ := Aside0.mk hrr
    have HLF := Aside0.mk (Kd.F_max FB.out)
    have HBm := Aside0.mk (Below.refl (m0 + 2) W2)
    have HNK := Aside0.mk (Kd.N_nil k56 56 W2 (m0 + 3) (fun k => k < n0 ∨ m0 + 3 ≤ k))
    clear hrr hf
    go_wp2_with fail
    rw [HW1.out]
    clear x0 x1 x2 x3 w0 w1 w2 w3 z0 z1 z2 u0 u1 u2 y0 y1 y2 v0 v1 v2
    go_loopg [11, 12] nd.f2.length (fun kq v11 v12 w' => ∃ (j : Nat) (nx : Int) (acc : List S56) (A3 : Option Addr) (c3 : Nat), v12 = .int .i64 (j : Int) ∧ v11 = .int .i64 nx ∧ Aside0 (j ≤ nd.f2.length ∧ nd.f2.length ≤ kq + j ∧ acc.length = j) ∧ Aside0 (r = nestL (nestD ns d) (decide (0 < nd.f2.length)) (nd.f2.drop j) nx acc) ∧ Aside0 (w'.heap[m0 + 2]? = some (.cells #[.bool false, .slice none 0 0, .slice A3 acc.length c3] 56 (0, 0))) ∧ Aside0 (Kd.N k56 56 w' (m0 + 3) (fun k => k < n0 ∨ m0 + 3 ≤ k) (.slice A3 acc.length c3) acc) ∧ Aside0 (Below (m0 + 2) W2 w'))
    case atStart => exact ⟨0, i + 1, [], none, 0, rfl, rfl, ⟨by omega, by omega, rfl⟩, HQ, K10, HNK, HBm⟩
    case round =>
     clear K10 HNK HBm HQ
     obtain ⟨j, nx, acc, A3, c3, rfl, rfl, HI, HQ, K10, HNK, HBm⟩ := hrel
     replace K6 := Aside0.mk ((HBm.out.block m0 (by omega)).trans K6.out)
     replace K9 := Aside0.mk ((HBm.out.block (m0 + 1) (by omega)).trans K9.out)
     replace HF := Aside0.mk (Kd.F_step HF.out (fun k hk _ => HBm.out.block k (by have := HN0.out; omega)))
     replace FB := Aside0.mk (Kd.F_step FB.out (fun k hk _ => HBm.out.block k (by have := HN0.out; omega)))
     have HZ := Aside0.mk (show m0 + 3 ≤ wr.heap.size by rw [← HZ2.out]; exact HBm.out.size)
     replace HB := Aside0.mk (below_same HB.out (below_less HBm.out (by omega)))
     clear HZ2 FA
     obtain ⟨x0, x1, x2, x3, w0, w1, w2, w3⟩ := blk_cells4 K9.out
     obtain ⟨z0, z1, z2, u0, u1, u2⟩ := blk_cells3 K10.out
     obtain ⟨y0, y1, y2, v0, v1, v2⟩ := blk_cells3 K6.out
     by_cases cj : j < nd.f2.length
     ·have cjb : decide (j < nd.f2.length) = true := decide_eq_true cj
      have hx := Kd.at_int (Kd.F_now FB.out) (j : Int) (by omega) (by omega)
      obtain ⟨ad2, rfl, hx⟩ := hx
      simp only [Int.toNat_natCast] at hx
      have p5 : (0 ≤ (j : Int)) = True := eq_true (by omega)
      have q5 : ((j : Int) < (nd.f2.length : Int)) = True := eq_true (by omega)
      have CJ := Aside0.mk cj
      clear cj
      by_cases ck : rd nd.f2 (j : Int) = nx
      ·have ckb : (rd nd.f2 (j : Int) != nx) = false := by simp [ck]
       go_wp2_with fail
       rw [show wrap64 (dep + 1) = dep + 1 by have := HP.out; unfold wrap64; omega]
       refine (IH.out (dep + 1) (by have := HP.out; omega) (by have := HP.out; omega) nx (some ad) c wr HF.out (by have := HN0.out; have := HZ.out; omega)).mono ?_
       obtain ⟨q, hq⟩ : ∃ q, q = nestD ns d nx := ⟨_, rfl⟩
       have HQ2 := Aside0.mk hq
       rw [← hq]
       rintro e W5 ⟨p1, p2, rfl, hK, hb⟩
       clear hq
       obtain ⟨kid, after, okk⟩ := q
       simp only at hK
       obtain ⟨A5, c5, A6, c6, he, _, _, _, _⟩ := k56_openF hK
       simp only [List.cons.injEq, and_true, true_and] at he
       obtain ⟨rfl, rfl⟩ := he
       have HRQ := Aside0.mk (show r = if okk = true then nestL (nestD ns d) (decide (0 < nd.f2.length)) (nd.f2.drop (j + 1)) after (acc ++ [kid]) else (⟨false, [], acc⟩, nx, false) by
        rw [HQ.out, drop_rd _ _ CJ.out]
        rw [nestL_cons, if_pos ck, ← HQ2.out])
       have HOLD := HNK
       replace K6 := Aside0.mk (blk_below K6.out hb)
       replace K9 := Aside0.mk (blk_below K9.out hb)
       replace K10 := Aside0.mk (blk_below K10.out hb)
       replace HF := Aside0.mk (Kd.F_below HF.out hb)
       replace FB := Aside0.mk (Kd.F_below FB.out hb)
       replace HNK := Aside0.mk (Kd.N_below HNK.out hb)
       replace HB := Aside0.mk (below_lo HB.out hb (by have := HZ.out; omega))
       replace HBm := Aside0.mk (below_lo HBm.out hb (by have := HZ.out; omega))
       have HKK := Aside0.mk (Foot.mono (ok' := fun k => (k < n0 ∨ m0 + 3 ≤ k) ∧ some k ≠ (Value.slice A3 acc.length c3).ownBlock) hK (fun k hk => ⟨by have := HZ.out; omega, fun he => by
        have h1 := Kd.N_lt HOLD.out k he.symm
        have h2 := Kd.N_base HOLD.out k he.symm
        have := HN0.out
        omega⟩))
       clear HOLD
       have hm5 : m0 + 3 ≤ W5.heap.size := Nat.le_trans HZ.out hb.size
       obtain ⟨g5, hg5⟩ : ∃ g5, g5 = W5.heap.size := ⟨_, rfl⟩
       clear hb hK HQ HQ2 x0 x1 x2 x3 w0 w1 w2 w3 z0 z1 z2 u0 u1 u2 y0 y1 y2 v0 v1 v2 hx ck ckb cjb p5 q5 HZ
       have HCK := Aside0.mk hg5
       clear hg5
       go_upto_region 15 with (fail)
       have hb5 : Below W5.heap.size W5 (W5.alloc (.cells #[.bool kid.f0, .slice A5 kid.f1.length c5, .slice A6 kid.f2.length c6] 56)) := below_alloc (Below.refl _ _) _
       have K13 := Aside0.mk (blk_new W5 (.cells #[.bool kid.f0, .slice A5 kid.f1.length c5, .slice A6 kid.f2.length c6] 56))
       have HZ := Aside0.mk (show m0 + 3 ≤ (W5.alloc (.cells #[.bool kid.f0, .slice A5 kid.f1.length c5, .slice A6 kid.f2.length c6] 56)).heap.size from Nat.le_trans hm5 hb5.size)
       rw [← HCK.out] at K13 ⊢
       replace K6 := Aside0.mk (blk_below K6.out hb5)
       replace K9 := Aside0.mk (blk_below K9.out hb5)
       replace K10 := Aside0.mk (blk_below K10.out hb5)
       replace HF := Aside0.mk (Kd.F_below HF.out hb5)
       replace FB := Aside0.mk (Kd.F_below FB.out hb5)
       replace HNK := Aside0.mk (Kd.N_below HNK.out hb5)
       replace HKK := Aside0.mk (Kd.FK_below HKK.out hb5)
       replace HB := Aside0.mk (below_lo HB.out hb5 (by omega))
       replace HBm := Aside0.mk (below_lo HBm.out hb5 (by omega))
       have hne : m0 + 2 ≠ g5 := by have := HCK.out; omega
       generalize (W5.alloc (.cells #[.bool kid.f0, .slice A5 kid.f1.length c5, .slice A6 kid.f2.length c6] 56)) = W6 at *
       clear hb5 hm5 HCK
       obtain ⟨x0, x1, x2, x3, w0, w1, w2, w3⟩ := blk_cells4 K9.out
       obtain ⟨z0, z1, z2, u0, u1, u2⟩ := blk_cells3 K10.out
       obtain ⟨y0, y1, y2, v0, v1, v2⟩ := blk_cells3 K6.out
       obtain ⟨q0, q1, q2, r0, r1, r2⟩ := blk_cells3 K13.out
       cases okk
       case false =>
        have hrq : r = (⟨false, [], acc⟩, nx, false) := by have := HRQ.out; simpa using this
        go_wp2_with fail
        refine bodyPost_ret (results_three rfl _ _ m0 56 _ (0, 0) _ rfl (blk_set3 K6.out) hu56 rfl (by kernel_rfl)) rfl ?_
        exact nest_end hrq HN0.out HNK.out HB.out HN.out
       case true =>
        have HRR := Aside0.mk (show r = nestL (nestD ns d) (decide (0 < nd.f2.length)) (nd.f2.drop (j + 1)) after (acc ++ [kid]) by have := HRQ.out; simpa using this)
        clear HRQ
        cases gk with
        | zero => exact absurd HI.out (by have := CJ.out; omega)
        | succ mm =>
          have HW9 := Aside0.mk (show wrap64 ((j : Int) + 1) = ((j + 1 : Nat) : Int) by have := CJ.out; have := HLF.out; unfold wrap64; omega)
          go_wp2_with ((with_reducible refine gate_builtin (b := .append) (xs := #[.tmp 81, .tmp 83]) rfl ?_); at_builtin; refine Kd.N_append k56 (w0 := W6) (m0 + 3) rfl (.tmp 81) (.tmp 83) 54 56 (.agg #[(.bool false), (.slice none 0 0), (.slice none 0 0)]) 56 rfl Try.underlying54 info56 rfl (by decide) (by omega) (.slice A3 acc.length c3) acc kid [.bool kid.f0, .slice A5 kid.f1.length c5, .slice A6 kid.f2.length c6] (fun k => k < n0 ∨ m0 + 3 ≤ k) (fun k => (k < n0 ∨ m0 + 3 ≤ k) ∧ some k ≠ (Value.slice A3 acc.length c3).ownBlock) rfl rfl ?aP (fun _ hk => hk) ?aF ?aO ?aB ?aS ?aL ?_; (case aP => exact HKK.out); (case aB => exact Below.refl _ _); (case aF => exact fun k hk => Or.inr (Nat.le_trans HZ.out hk)); (case aO => exact HNK.out); (case aS => exact HZ.out); (case aL => have := HI.out; have := HK2.out; have := CJ.out; omega); intro v84 w9 ho hb hg hat; obtain ⟨A4, c4, rfl⟩ := Kd.N_slice ho; have K10n := Aside0.mk ((hb.block (m0 + 2) (by omega)).trans K10.out); have HNn := Aside0.mk ho; have HBn := Aside0.mk (below_same HB.out (below_less hb (by omega))); have HBp := Aside0.mk (below_same HBm.out (below_less (lo := m0 + 2) hb (by omega))); clear ho hb hg hat x0 x1 x2 x3 w0 w1 w2 w3 z0 z1 z2 u0 u1 u2 y0 y1 y2 v0 v1 v2 q0 q1 q2 r0 r1 r2 K10 HNK HKK; obtain ⟨z0, z1, z2, u0, u1, u2⟩ := blk_cells3 K10n.out)
          go_roundg mm
          case measure => omega
          case rel => exact ⟨j + 1, after, acc ++ [kid], A4, c4, by rw [HW9.out], rfl, ⟨by have := HI.out; have := CJ.out; rw [List.length_append, List.length_singleton]; omega⟩, HRR, ⟨by rw [show (acc ++ [kid]).length = acc.length + 1 by simp]; exact blk_put K10n.out 2 _ rfl⟩, ⟨by rw [← List.length_singleton (a := kid), ← List.length_append]; exact Kd.N_far (p := ⟨m0 + 2, 2, none⟩) HNn.out (fun k hk => by have := HN0.out; show k ≠ m0 + 2; omega) _⟩, ⟨HBp.out.setCell (Nat.le_refl _) _⟩⟩
      ·have ckb : (rd nd.f2 (j : Int) != nx) = true := by simp [ck]
       have hrq : r = (⟨false, [], acc⟩, nx, false) := by
        rw [HQ.out, drop_rd _ _ CJ.out]
        rw [nestL_cons, if_neg ck]
       go_wp2_with fail
       refine bodyPost_ret (results_three rfl _ _ m0 56 _ (0, 0) _ rfl (blk_set3 K6.out) hu56 rfl (by kernel_rfl)) rfl ?_
       exact nest_end hrq HN0.out HNK.out HB.out HN.out
     ·have cjb : decide (j < nd.f2.length) = false := decide_eq_false cj
      have hj : j = nd.f2.length := by have := HI.out; omega
      have hrq : r = (⟨false, [], acc⟩, nx, decide (0 < nd.f2.length)) := by
       rw [HQ.out, hj, List.drop_length]
       rfl
      clear hj
      go_wp2_with fail
      go_region
      go_wp2_with fail
      refine bodyPost_ret (results_three rfl _ _ m0 56 _ (0, 0) _ rfl (blk_set3 K6.out) hu56 rfl (by kernel_rfl)) rfl ?_
      exact nest_end2 hrq HN0.out HNK.out HB.out HN.out

/-! ### zt_fs: a text by hand -/
-- uses FK_dr blk_cells3
-- l3Flat's state: the node's rows and the rest's
theorem below_sz {B : Nat} {w w1 : World} (h : Below B w w1) : w.heap.size ≤ w1.heap.size := h.size
structure FS (w : World) (m0 gn : Nat) (kv iv rv : Value) (ks : List ByteArray) (is : List Int) (rs : List S90) : Prop where
 kr : Kd.R Kd.string 9 w m0 (fun _ => True) kv ks
 ir : Kd.R (Kd.int .i64) 2 w m0 (fun _ => True) iv is
 rr : Kd.N k90 90 w m0 (fun k => ((m0 ≤ k ∧ k ≠ gn) ∧ some k ≠ kv.ownBlock) ∧ some k ≠ iv.ownBlock) rv rs
 kg : some gn ≠ kv.ownBlock
 ig : some gn ≠ iv.ownBlock
theorem FS.below {w w1 : World} {m0 gn : Nat} {kv iv rv : Value} {ks : List ByteArray} {is : List Int} {rs : List S90} (h : FS w m0 gn kv iv rv ks is rs) (hb : Below w.heap.size w w1) : FS w1 m0 gn kv iv rv ks is rs :=
 ⟨Kd.R_below h.kr hb, Kd.R_below h.ir hb, Kd.N_below h.rr hb, h.kg, h.ig⟩
theorem FS.far {w : World} {m0 gn : Nat} {kv iv rv : Value} {ks : List ByteArray} {is : List Int} {rs : List S90} (h : FS w m0 gn kv iv rv ks is rs) (j : Nat) (u : Value) : FS (w.setCell ⟨gn, j, none⟩ u) m0 gn kv iv rv ks is rs :=
 ⟨Kd.R_mono (Kd.R_far (p := ⟨gn, j, none⟩) (Kd.R_tight rfl h.kr) (fun k hk he => h.kg ((congrArg some (show k = gn from he)).symm.trans hk)) u) (fun _ _ => trivial),
  Kd.R_mono (Kd.R_far (p := ⟨gn, j, none⟩) (Kd.R_tight rfl h.ir) (fun k hk he => h.ig ((congrArg some (show k = gn from he)).symm.trans hk)) u) (fun _ _ => trivial),
  Kd.N_far (p := ⟨gn, j, none⟩) h.rr (fun k hk => hk.1.1.2) u, h.kg, h.ig⟩
theorem FS.apart {w : World} {m0 gn : Nat} {kv iv rv : Value} {ks : List ByteArray} {is : List Int} {rs : List S90} (h : FS w m0 gn kv iv rv ks is rs) (k : Nat) : ¬ (kv.ownBlock = some k ∧ iv.ownBlock = some k) := by
 rintro ⟨h1, h2⟩
 obtain ⟨c1, e1⟩ := Kd.R_typed h.kr k h1
 obtain ⟨c2, e2⟩ := Kd.R_typed h.ir k h2
 rw [e1] at e2
 simp at e2
theorem FS.kids {w w1 : World} {m0 gn : Nat} {kv iv iv1 rv : Value} {ks : List ByteArray} {is is1 : List Int} {rs : List S90} (h : FS w m0 gn kv iv rv ks is rs) (hk : Kd.R (Kd.int .i64) 2 w1 m0 (fun _ => True) iv1 is1) (hg : w.grownBy w1 iv.ownBlock) (hat : iv1.ownBlock = iv.ownBlock ∨ ∃ b, iv1.ownBlock = some b ∧ w.heap.size ≤ b) (hl : gn < w.heap.size) : FS w1 m0 gn kv iv1 rv ks is1 rs := by
 refine ⟨Kd.R_mono (Kd.R_grown (Kd.R_tight rfl h.kr) hg (fun k hk he => h.apart k ⟨hk.symm, he.symm⟩)) (fun _ _ => trivial), hk, Kd.N_after h.rr hg hat, h.kg, ?_⟩
 rcases hat with e | ⟨b, e, hb⟩
 ·rw [e]; exact h.ig
 ·rw [e]
  intro he
  injection he with he
  omega
theorem FS.keys {w w1 : World} {m0 gn : Nat} {kv kv1 iv rv : Value} {ks ks1 : List ByteArray} {is : List Int} {rs : List S90} (h : FS w m0 gn kv iv rv ks is rs) (hk : Kd.R Kd.string 9 w1 m0 (fun _ => True) kv1 ks1) (hg : w.grownBy w1 kv.ownBlock) (hat : kv1.ownBlock = kv.ownBlock ∨ ∃ b, kv1.ownBlock = some b ∧ w.heap.size ≤ b) (hl : gn < w.heap.size) : FS w1 m0 gn kv1 iv rv ks1 is rs := by
 refine ⟨hk, Kd.R_mono (Kd.R_grown (Kd.R_tight rfl h.ir) hg (fun k hk he => h.apart k ⟨he.symm, hk.symm⟩)) (fun _ _ => trivial), ?_, ?_, h.ig⟩
 ·exact Kd.N_mono (Kd.N_after (ok := fun k => (m0 ≤ k ∧ k ≠ gn) ∧ some k ≠ iv.ownBlock) (Kd.N_mono h.rr (fun k hk => ⟨⟨hk.1.1, hk.2⟩, hk.1.2⟩)) hg hat) (fun k hk => ⟨⟨hk.1.1, hk.2⟩, hk.1.2⟩)
 ·rcases hat with e | ⟨b, e, hb⟩
  ·rw [e]; exact h.kg
  ·rw [e]
   intro he
   injection he with he
   omega
theorem FS.rest {w w1 : World} {m0 gn : Nat} {kv iv rv rv1 : Value} {ks : List ByteArray} {is : List Int} {rs rs1 : List S90} (h : FS w m0 gn kv iv rv ks is rs) (hr : Kd.N k90 90 w1 m0 (fun k => ((m0 ≤ k ∧ k ≠ gn) ∧ some k ≠ kv.ownBlock) ∧ some k ≠ iv.ownBlock) rv1 rs1) (hg : w.grownBy w1 rv.ownBlock) : FS w1 m0 gn kv iv rv1 ks is rs1 :=
 ⟨Kd.R_mono (Kd.R_grown (Kd.R_tight rfl h.kr) hg (fun k hk he => (h.rr.1 k he.symm).1.2 hk)) (fun _ _ => trivial), Kd.R_mono (Kd.R_grown (Kd.R_tight rfl h.ir) hg (fun k hk he => (h.rr.1 k he.symm).2 hk)) (fun _ _ => trivial), hr, h.kg, h.ig⟩
theorem FS.fresh {w : World} {m0 gn : Nat} {kv iv rv : Value} {ks : List ByteArray} {is : List Int} {rs : List S90} (h : FS w m0 gn kv iv rv ks is rs) (hm : m0 ≤ w.heap.size) (hl : gn < w.heap.size) (k : Nat) (hk : w.heap.size ≤ k) : (((m0 ≤ k ∧ k ≠ gn) ∧ some k ≠ kv.ownBlock) ∧ some k ≠ iv.ownBlock) ∧ some k ≠ rv.ownBlock := by
 refine ⟨⟨⟨⟨by omega, by omega⟩, fun he => ?_⟩, fun he => ?_⟩, fun he => ?_⟩
 ·have := Kd.R_lt h.kr k he.symm; omega
 ·have := Kd.R_lt h.ir k he.symm; omega
 ·have := Kd.N_lt h.rr k he.symm; omega
theorem FS.gn_rv {w : World} {m0 gn : Nat} {kv iv rv : Value} {ks : List ByteArray} {is : List Int} {rs : List S90} (h : FS w m0 gn kv iv rv ks is rs) : some gn ≠ rv.ownBlock := fun he => (h.rr.1 gn he.symm).1.1.2 rfl
/-- The node's cells, read. -/
theorem FS.node {w : World} {m0 gn : Nat} {kv iv rv : Value} {ks : List ByteArray} {is : List Int} {rs : List S90} (h : FS w m0 gn kv iv rv ks is rs) (b : Bool) (c : Int) : Kd.FK k90 w (fun k => m0 ≤ k) ⟨b, ks, is, c⟩ [.bool b, kv, iv, .int .i64 c] := by
 obtain ⟨A1, c1, e1⟩ := Kd.R_slice h.kr
 obtain ⟨A2, c2, e2⟩ := Kd.R_slice h.ir
 have hk := h.kr
 have hi := h.ir
 subst e1 e2
 have b1 := Kd.R_base hk
 have b2 := Kd.R_base hi
 exact k90_mkF w _ ⟨b, ks, is, c⟩ (Kd.R_reads' hk).2.1 (Kd.R_F (Kd.R_mono (Kd.R_tight rfl hk) (fun k hk => b1 k hk.symm))) (Kd.R_reads' hi).2.1 (Kd.R_F (Kd.R_mono (Kd.R_tight rfl hi) (fun k hk => b2 k hk.symm)))
theorem at_F56 {W : World} {A : Option Addr} {n : Nat} {xs : List S56} {ok : Nat → Prop} (h : Kd.F k56 W ok A n xs) (i : Int) (h0 : 0 ≤ i) (h1 : i < n) : ∃ ad A1 c1 A2 c2, A = some ad ∧ W.cell? (ad.add (i.toNat * 3)) = some (.bool (rd_T56 xs i).f0) ∧ W.cell? ⟨(ad.add (i.toNat * 3)).block, (ad.add (i.toNat * 3)).off + 1, none⟩ = some (.slice A1 (rd_T56 xs i).f1.length c1) ∧ W.cell? ⟨(ad.add (i.toNat * 3)).block, (ad.add (i.toNat * 3)).off + 2, none⟩ = some (.slice A2 (rd_T56 xs i).f2.length c2) ∧ Kd.FK k56 W ok (rd_T56 xs i) [.bool (rd_T56 xs i).f0, .slice A1 (rd_T56 xs i).f1.length c1, .slice A2 (rd_T56 xs i).f2.length c2] := by
 obtain ⟨ad, c, e, _, hK, hc0, _⟩ := Kd.F_get h z56 i h0 h1
 have hc : ∀ j u, c[j]? = some u → W.cell? (ad.add (i.toNat * 3 + j)) = some u := hc0
 have hK2 := hK
 obtain ⟨A1, c1, A2, c2, rfl, l1, g1, l2, g2⟩ := k56_openF hK
 exact ⟨ad, A1, c1, A2, c2, e, hc 0 _ rfl, by rw [← add_field _ _ 1 (by omega)]; exact hc 1 _ rfl, by rw [← add_field _ _ 2 (by omega)]; exact hc 2 _ rfl, hK2⟩
theorem flatD_le : ∀ {d : Nat} {r : Bool} {t : S56} (a : Int), goodD d r t → (flatD d t a).length + 1 ≤ 4 ^ (d + 1)
 | 0, r, t, a, h => by simp [flatD]
 | d + 1, r, t, a, h => by
   obtain ⟨_, _, _, h3, hk⟩ := h
   have : ∀ (ks : List S56) (b : Int), (∀ k ∈ ks, goodD d false k) → (flatL (flatD d) ks b).length + ks.length ≤ ks.length * 4 ^ (d + 1) := by
    intro ks
    induction ks with
    | nil => intro _ _; simp [flatL]
    | cons k ks ih =>
      intro b hk
      have h1 := flatD_le b (hk k List.mem_cons_self)
      have h2 := ih (b + ((flatD d k b).length : Nat)) (fun x hx => hk x (List.mem_cons_of_mem _ hx))
      simp only [flatL, List.length_append, List.length_cons, Nat.add_mul, Nat.one_mul] at h2 ⊢
      omega
   have := this t.f2 (a + 1) hk
   have h4 : t.f2.length * 4 ^ (d + 1) ≤ 4 * 4 ^ (d + 1) := Nat.mul_le_mul_right _ h3
   have h5 : 2 ≤ t.f2.length := by assumption
   simp only [flatD, List.length_cons]
   rw [Nat.pow_succ]
   omega
theorem reps_single {α : Type} {R : α → List Value → Prop} {size : Nat} {p : α} {cs : List Value} (h : R p cs) (hl : cs.length = size) : Reps R size [p] cs := by
 refine ⟨by simp [hl], fun j q hj => ?_⟩
 cases j with
 | zero =>
   simp only [List.getElem?_cons_zero, Option.some.injEq] at hj
   subst hj
   rw [Nat.zero_mul, List.drop_zero, List.take_of_length_le (by omega)]
   exact h
 | succ j => simp at hj
theorem below_new {B : Nat} {w w1 : World} (hb : Below B w w1) (hg : w.grownBy w1 none) : Below w.heap.size w w1 := ⟨hb.os, hb.tape, hb.output, hb.size, fun k hk => hg.block k hk (by simp)⟩
theorem FS.nil (w : World) (m0 gn : Nat) : FS w m0 gn (.slice none 0 0) (.slice none 0 0) (.slice none 0 0) [] [] [] := ⟨Kd.R_nil _ _ _ _ _, Kd.R_nil _ _ _ _ _, Kd.N_nil _ _ _ _ _, by simp [Value.ownBlock], by simp [Value.ownBlock]⟩
theorem N_lit1 {α : Type} {d : Kd α} {w : World} {e base : Nat} {okp ok : Nat → Prop} {x : α} {cs : List Value} (hK : Kd.FK d w okp x cs) (hok : ∀ k, okp k → ok k) (hfresh : ok w.heap.size) (hbase : base ≤ w.heap.size) : Kd.N d e (w.alloc (.cells cs.toArray e)) base ok (.slice (some ⟨w.heap.size, 0, none⟩) 1 1) [x] := by
 have hl : cs.length = d.sz := d.K_len (Kd.FK_now hK)
 have hR : (Kd.raw d.sz).R e (w.alloc (.cells cs.toArray e)) base (fun k => k = w.heap.size) (.slice (some ⟨w.heap.size, 0, none⟩) 1 1) [cs] := by
  refine ⟨fun k hk => ?_, cs, ?_, reps_single ⟨rfl, hl, d.K_one (Kd.FK_now hK)⟩ hl⟩
  · simpa [Value.ownBlock] using hk.symm
  · have h2 := World.ownsRow_lit (base := base) (e := e) (size := d.sz) w cs.toArray 1 hbase (by decide) (by simp [hl])
    have h3 : (w.alloc (.cells cs.toArray e)).ownsRow base e d.sz (.slice (some ⟨w.heap.size, 0, none⟩) 1 1) 1 cs := by simpa using h2
    exact h3
 exact Kd.N_made hR (World.grownBy_alloc w _ none) ⟨w.heap.size, by simp [Value.ownBlock], Nat.le_refl _⟩ rfl (fun j y c hy hc => by
  cases j with
  | zero =>
    simp only [List.getElem?_cons_zero, Option.some.injEq] at hy hc
    subst hy hc
    exact hK
  | succ j => simp at hy) hok hfresh
theorem sz_set (w : World) (a : Addr) (v : Value) : (w.setCell a v).heap.size = w.heap.size := by
 unfold World.setCell
 split <;> simp
theorem sepL_take {d j : Nat} {ks : List S56} (h : j < ks.length) (h0 : 0 < j) : sepL d (ks.take (j + 1)) = sepL d (ks.take j) ++ [headK d ks[j]] := by
 rw [List.take_add_one, List.getElem?_eq_getElem h, Option.toList_some, sepL_snoc, if_neg]
 rw [List.length_take]
 omega
theorem flatL_take {f : S56 → Int → List S90} {j : Nat} {ks : List S56} {a : Int} (h : j < ks.length) : flatL f (ks.take (j + 1)) a = flatL f (ks.take j) a ++ f ks[j] (a + ((flatL f (ks.take j) a).length : Nat)) := by
 rw [List.take_add_one, List.getElem?_eq_getElem h, Option.toList_some, flatL_snoc]
theorem noL_take {f : S56 → Int → List S90} {j : Nat} {ks : List S56} {a : Int} (h : j < ks.length) : noL f (ks.take (j + 1)) a = noL f (ks.take j) a ++ [a + ((flatL f (ks.take j) a).length : Nat)] := by
 rw [List.take_add_one, List.getElem?_eq_getElem h, Option.toList_some, noL_snoc]
theorem flatL_le {d : Nat} {ks : List S56} (a : Int) (h4 : ks.length ≤ 4) (hk : ∀ k ∈ ks, goodD d false k) : (flatL (flatD d) ks a).length ≤ 4 ^ (d + 2) := by
 have : ∀ (ks : List S56) (b : Int), (∀ k ∈ ks, goodD d false k) → (flatL (flatD d) ks b).length ≤ ks.length * 4 ^ (d + 1) := by
  intro ks
  induction ks with
  | nil => intro _ _; simp [flatL]
  | cons k ks ih =>
    intro b hk
    have h1 := flatD_le b (hk k List.mem_cons_self)
    have h2 := ih (b + ((flatD d k b).length : Nat)) (fun x hx => hk x (List.mem_cons_of_mem _ hx))
    simp only [flatL, List.length_append, List.length_cons, Nat.add_mul, Nat.one_mul] at h2 ⊢
    omega
 have := this ks a hk
 have h4 : ks.length * 4 ^ (d + 1) ≤ 4 * 4 ^ (d + 1) := Nat.mul_le_mul_right _ h4
 rw [Nat.pow_succ 4 (d + 1)]
 omega
theorem cell_stay {w w1 : World} (hb : Below w.heap.size w w1) {a : Addr} {v : Value} (h : w.cell? a = some v) : w1.cell? a = some v := Kd.cell_heap (fun k hk => hb.block k hk) h
theorem at_F56r {W : World} {A : Option Addr} {n : Nat} {xs : List S56} {ok : Nat → Prop} (h : Kd.F k56 W ok A n xs) (i : Nat) (h1 : i < n) : ∃ ad A1 c1 A2 c2, A = some ad ∧ W.cell? (ad.add (i * 3)) = some (.bool (rd_T56 xs (i : Int)).f0) ∧ W.cell? ⟨(ad.add (i * 3)).block, (ad.add (i * 3)).off + 1, none⟩ = some (.slice A1 (rd_T56 xs (i : Int)).f1.length c1) ∧ W.cell? ⟨(ad.add (i * 3)).block, (ad.add (i * 3)).off + 2, none⟩ = some (.slice A2 (rd_T56 xs (i : Int)).f2.length c2) ∧ Kd.FK k56 W ok (rd_T56 xs (i : Int)) [.bool (rd_T56 xs (i : Int)).f0, .slice A1 (rd_T56 xs (i : Int)).f1.length c1, .slice A2 (rd_T56 xs (i : Int)).f2.length c2] ∧ (rd_T56 xs (i : Int)).f1.length ≤ c1 ∧ Kd.F Kd.string W ok A1 (rd_T56 xs (i : Int)).f1.length (rd_T56 xs (i : Int)).f1 ∧ (rd_T56 xs (i : Int)).f2.length ≤ c2 ∧ Kd.F k56 W ok A2 (rd_T56 xs (i : Int)).f2.length (rd_T56 xs (i : Int)).f2 ∧ ok (ad.add (i * 3)).block := by
 obtain ⟨ad0, c0, e0, _, _, _, hblk⟩ := Kd.F_get h z56 (i : Int) (by omega) (by omega)
 obtain ⟨ad, A1, c1, A2, c2, e, x0, x1, x2, hK⟩ := at_F56 h (i : Int) (by omega) (by omega)
 simp only [Int.toNat_natCast] at x0 x1 x2
 obtain ⟨A1', c1', A2', c2', he, l1, F1, l2, F2⟩ := k56_openF hK
 simp only [List.cons.injEq, Value.slice.injEq, and_true, true_and] at he
 obtain ⟨⟨rfl, rfl⟩, rfl, rfl⟩ := he
 rw [e] at e0
 injection e0 with e0
 subst e0
 exact ⟨ad, _, _, _, _, e, x0, x1, x2, hK, l1, F1, l2, F2, by rw [add_block]; exact hblk (by decide)⟩

/-! ### zt_l3flat: a text by hand -/
-- uses results_three blk_cells3
-- import Derived.Laws.ResultCell
-- import Derived.StillTailTactics
def flat.gT1 : Bool × List (List Nat × List Nat) := (true, [([], []), ([0], [0]), ([], []), ([2], [2]), ([3], [3]), ([1, 4], [1, 4]), ([], []), ([6, 5, 3, 0, 1, 2, 3, 4, 5, 6], [5, 6])])
def flat.gB1 : List Nat := [0, 1, 0, 4, 12, 31, 0, 127]
theorem flat.gtab1 : rtab .any (opsOf Try.f37 1) = flat.gT1 := by kernel_rfl
theorem flat.gbits1 : waitsOk flat.gT1.2 flat.gB1 = true := by kernel_rfl
def flat.gT11 : Bool × List (List Nat × List Nat) := (true, [([], []), ([0], [0]), ([], []), ([2], [2]), ([], []), ([3, 4], [3, 4]), ([5], [5]), ([6], [6]), ([7], [7]), ([8], [8]), ([9], [9]), ([1, 10, 7], [1, 10]), ([0, 1, 2, 3, 4, 5, 6, 7, 8, 9, 10, 11], []), ([12, 11, 11, 0, 1, 2, 3, 4, 5, 6, 7, 8, 9, 10, 11], [11, 12])])
def flat.gB11 : List Nat := [0, 1, 0, 4, 0, 28, 60, 124, 252, 508, 1020, 2047, 4095, 8191]
theorem flat.gtab11 : rtab .any (opsOf Try.f37 11) = flat.gT11 := by kernel_rfl
theorem flat.gbits11 : waitsOk flat.gT11.2 flat.gB11 = true := by kernel_rfl
set_option maxHeartbeats 16000000 in
set_option maxRecDepth 100000 in
theorem l3Flat_any (n0 : Nat) : ∀ (d : Nat) (r : Bool) (t : S56) (a : Int) (A1 : Option Addr) (c1 : Nat) (A2 : Option Addr) (c2 : Nat) (W : World) (_ : goodD d r t) (_ : d ≤ 12) (B : Nat) (_ : B = 4 ^ (d + 2)) (_ : 0 ≤ a) (_ : a + (B : Int) ≤ 1125899906842624) (_ : Kd.FK k56 W (fun k => k < n0) t [.bool t.f0, .slice A1 t.f1.length c1, .slice A2 t.f2.length c2]) (_ : n0 ≤ W.heap.size),
   Calls Try.prog 37 #[.agg #[.bool t.f0, .slice A1 t.f1.length c1, .slice A2 t.f2.length c2], .int .i64 a] W fun e W' => ∃ v, e = .returned v ∧ Kd.N k90 90 W' W.heap.size (fun k => W.heap.size ≤ k) v (flatD d t a) ∧ Below W.heap.size W W' := by
 intro d
 induction d using Nat.strongRecOn with
 | _ d ih => ?_
 intro r t a A1 c1 A2 c2 W hg hd B hB h0 h1 hK hn
 obtain ⟨A1', c1', A2', c2', he, l1, F1, l2, F2⟩ := k56_openF hK
 simp only [List.cons.injEq, Value.slice.injEq, and_true, true_and] at he
 obtain ⟨⟨rfl, rfl⟩, rfl, rfl⟩ := he
 have hb0 : Below W.heap.size W (W.alloc (.cells #[.bool t.f0, .slice A1 t.f1.length c1, .slice A2 t.f2.length c2] 56)) := below_alloc (Below.refl _ _) _
 have K2 := Aside0.mk (blk_new W (.cells #[.bool t.f0, .slice A1 t.f1.length c1, .slice A2 t.f2.length c2] 56))
 have HZ := Aside0.mk (show (W.alloc (.cells #[.bool t.f0, .slice A1 t.f1.length c1, .slice A2 t.f2.length c2] 56)).heap.size = W.heap.size + 1 by simp)
 have HF1 := Aside0.mk (Kd.F_below F1 hb0)
 have HF2 := Aside0.mk (Kd.F_below F2 hb0)
 have HB := Aside0.mk hb0
 have HL := Aside0.mk (And.intro l1 l2)
 have HP := Aside0.mk (And.intro hd (And.intro h0 h1))
 have HBB := Aside0.mk hB
 have HG := Aside0.mk hg
 have HN0 := Aside0.mk hn
 have IH := Aside0.mk ih
 have hu56 := Try.underlying56
 have hu90 := Try.underlying90
 clear hb0 ih hd h0 h1 hB hK hn hg F1 F2 l1 l2
 go_enter Try.func37, Try.ntmps37
 go_upto_region 1 with (fail)
 generalize (W.alloc (.cells #[.bool t.f0, .slice A1 t.f1.length c1, .slice A2 t.f2.length c2] 56)) = W0 at *
 obtain ⟨m0, hm0⟩ : ∃ m0, m0 = W.heap.size := ⟨_, rfl⟩
 rw [← hm0] at K2 HB HZ HN0 ⊢
 have HN := Aside0.mk hm0
 clear hm0
 obtain ⟨z0, z1, z2, u0, u1, u2⟩ := blk_cells3 K2.out
 obtain ⟨kl, hkl⟩ : ∃ kl, kl = (keysD d t).length := ⟨_, rfl⟩
 have HKL := Aside0.mk hkl
 clear hkl
 go_cut [5] (fun v5 wc => ∃ gn, v5 = .pointer (some ⟨gn, 0, none⟩) ∧ Aside0 (wc.heap[gn]? = some (.cells #[.bool t.f0, .slice none 0 0, .slice none 0 0, .int .i64 (kl : Int)] 90 (0, 0))) ∧ Aside0 (Below (m0 + 1) W0 wc) ∧ Aside0 (m0 + 1 ≤ gn))
 case first =>
   clear IH
   refine start_ (n := 8) (S := fun w' => w'.cell? ⟨m0, 0, none⟩ = some (.bool t.f0) ∧ w'.cell? ⟨m0, 1, none⟩ = some (.slice A1 t.f1.length c1) ∧ w'.cell? ⟨m0, 2, none⟩ = some (.slice A2 t.f2.length c2)) (ds := [7]) #[false, false, false, false, false, false, false, false] (by kernel_rfl) rfl rfl ⟨z0, z1, z2⟩ (fun hHeld => ?_); refine with_tabW flat.gtab1 flat.gbits1 (fun HT_ HW_ => ?_)
   have hb1 := below_drew1 (Below.refl W0.heap.size W0)
   replace K2 := Aside0.mk (blk_drew K2.out)
   replace HF1 := Aside0.mk (Kd.F_drew HF1.out)
   replace HF2 := Aside0.mk (Kd.F_drew HF2.out)
   have HC := Aside0.mk (show Below (m0 + 1) W0 W0.drew from below_drew1 (Below.refl _ _))
   have HZ1 := Aside0.mk (show W0.drew.heap.size = m0 + 1 from HZ.out)
   clear z0 z1 z2 u0 u1 u2 hb1
   generalize W0.drew = W1 at *
   refine pure_ (i := 0) (N := some 8) (v := ?_) (a' := ?_) #[true, false, false, false, false, false, false, false] rfl rfl (any_of HT_.out (by kernel_rfl)) (fun _ _ _ h => h) (Or.inl ⟨by rfl, ?_⟩) ?_ ?_
   rotate_left
   ·intro w'
    go_simp
    with_reducible rfl
   rotate_left
   ·simp only [Act.put, List.setIfInBounds_toArray, List.set_cons_zero, List.set_cons_succ, i64_w, i32_w]
    rfl
   refine take_ (i := 1) (N := some 9) (v := ?_) (a' := ?_) #[true, true, false, false, false, false, false, false] rfl rfl (take_ofW HT_.out HW_.out (by kernel_rfl)) (fun _ _ _ h => h) (Or.inl ⟨by rfl, ?_⟩) hHeld ?_ ?_
   rotate_left
   ·rintro w' ⟨s0, s1, s2⟩
    go_simp
    with_reducible rfl
   rotate_left
   ·simp only [Act.put, List.setIfInBounds_toArray, List.set_cons_zero, List.set_cons_succ, i64_w, i32_w]
    rfl
   refine take_ (i := 2) (N := some 10) (v := ?_) (a' := ?_) #[true, true, true, false, false, false, false, false] rfl rfl (take_ofW HT_.out HW_.out (by kernel_rfl)) (fun _ _ _ h => h) (Or.inl ⟨by rfl, ?_⟩) hHeld ?_ ?_
   rotate_left
   ·rintro w' ⟨s0, s1, s2⟩
    go_simp
    with_reducible rfl
   rotate_left
   ·simp only [Act.put, List.setIfInBounds_toArray, List.set_cons_zero, List.set_cons_succ, i64_w, i32_w]
    rfl
   refine join_ (σ := Value × Nat) 1 #[true, true, true, true, true, true, true, false] (fun s_ => [(11, s_.1), (12, .int .i64 (kl : Int)), (13, .agg #[.bool t.f0, .slice none 0 0, .slice none 0 0, .int .i64 (kl : Int)]), (5, .pointer (some ⟨s_.2, 0, none⟩))]) (fun s_ w' => Aside0 (w'.heap[s_.2]? = some (.cells #[.bool false, .slice none 0 0, .slice none 0 0, .int .i64 0] 90 (0, 0))) ∧ Aside0 (Below (m0 + 1) W0 w') ∧ Aside0 (m0 + 1 ≤ s_.2)) ?_ ?_
   rotate_left
   ·intro hCont
    have hKE := Aside0.mk (keys_at d r t (6 * d + 1) HG.out (by have := HP.out; omega) (Nat.le_refl _))
    refine two_ (i := 3) (j := 6) (Ni := some 11) (Nj := some 5) #[true, true, true, true, false, false, false, false] #[true, true, true, false, false, false, true, false] rfl rfl rfl rfl (two_of HT_.out (by kernel_rfl)) (by decide) (by decide) (fun K hK => ?_) (fun K hK => ?_)
    ·skip
     refine goes_ Try.func47 (by kernel_rfl) rfl #[.agg #[.bool t.f0, .slice A1 t.f1.length c1, .slice A2 t.f2.length c2]] (by rfl) rfl rfl (by (try simp only [List.map_toArray, List.map_cons, List.map_nil]); first | done | rfl) ?_
     refine (spec_l3Keys.calls (6 * d + 1) _ _ _ _ _ _ _ _ _ (Kd.F_now HF1.out) HL.out.1 (Kd.F_now HF2.out) HL.out.2 hKE.out).mono ?_
     rintro e W2 ⟨v11, rfl, hR, hb⟩
     obtain ⟨A11, c11, rfl⟩ := Kd.R_slice hR
     rw [← HKL.out] at *
     refine ⟨_, rfl, ?_⟩
     replace K2 := Aside0.mk (blk_below K2.out hb)
     replace HC := Aside0.mk (below_lo HC.out hb (by have := HZ1.out; omega))
     have HZ2 := Aside0.mk (show m0 + 1 ≤ W2.heap.size by rw [← HZ1.out]; exact hb.size)
     clear hb hR
     obtain ⟨z0, z1, z2, u0, u1, u2⟩ := blk_cells3 K2.out
     refine hK.out _ _ ⟨z0, z1, z2⟩ (fun hHeld => ?_)
     clear z0 z1 z2 u0 u1 u2
     clear hK K
     refine norm_ (a' := ?_) ?_ ?_
     rotate_left
     · show Act.put _ (some 11) _ = _
       simp only [Act.put, List.setIfInBounds_toArray, List.set_cons_zero, List.set_cons_succ, i64_w, i32_w]
       rfl
     refine pure_ (i := 4) (N := some 12) (v := ?_) (a' := ?_) #[true, true, true, true, true, false, false, false] rfl rfl (any_of HT_.out (by kernel_rfl)) (fun _ _ _ h => h) (Or.inl ⟨by rfl, ?_⟩) ?_ ?_
     rotate_left
     · intro w'
       go_simp
       with_reducible rfl
     rotate_left
     · simp only [Act.put, List.setIfInBounds_toArray, List.set_cons_zero, List.set_cons_succ, i64_w, i32_w]
       rfl
     refine pure_ (i := 5) (N := some 13) (v := ?_) (a' := ?_) #[true, true, true, true, true, true, false, false] rfl rfl (any_of HT_.out (by kernel_rfl)) (fun _ _ _ h => h) (Or.inl ⟨by rfl, ?_⟩) ?_ ?_
     rotate_left
     · intro w'
       go_simp
       with_reducible rfl
     rotate_left
     · simp only [Act.put, List.setIfInBounds_toArray, List.set_cons_zero, List.set_cons_succ, i64_w, i32_w]
       rfl
     refine one_ (i := 6) (N := some 5) #[true, true, true, true, true, true, true, false] rfl rfl (one_of HT_.out (by kernel_rfl)) (by decide) (fun K hK => ?_)
     refine box_step ?hg (N := 5) ?hd (cs := #[.bool false, .slice none 0 0, .slice none 0 0, .int .i64 0]) (t := 90) ?hr ?_; (case hd => rfl); (case hg => rfl); (case hr => first | (go_simp; done) | (go_simp; rfl))
     intro gn hgn W3 hbox hb
     replace K2 := Aside0.mk (blk_below K2.out hb)
     have KN := Aside0.mk hbox
     replace HC := Aside0.mk (below_lo HC.out hb HZ2.out)
     have HGN := Aside0.mk (show m0 + 1 ≤ gn by rw [hgn]; exact HZ2.out)
     obtain ⟨z0, z1, z2, u0, u1, u2⟩ := blk_cells3 K2.out
     refine hK.out _ _ ⟨z0, z1, z2⟩ (fun hHeld => ?_)
     clear z0 z1 z2 u0 u1 u2 hb hbox hgn
     clear hK K
     refine norm_ (a' := ?_) ?_ ?_
     rotate_left
     · show Act.put _ (some 5) _ = _
       simp only [Act.put, List.setIfInBounds_toArray, List.set_cons_zero, List.set_cons_succ, i64_w, i32_w]
       rfl
     exact hCont (.slice A11 kl c11, gn) _ ⟨KN, HC, HGN⟩
    ·skip
     refine box_step ?hg (N := 5) ?hd (cs := #[.bool false, .slice none 0 0, .slice none 0 0, .int .i64 0]) (t := 90) ?hr ?_; (case hd => rfl); (case hg => rfl); (case hr => first | (go_simp; done) | (go_simp; rfl))
     intro gn hgn W3 hbox hb
     replace K2 := Aside0.mk (blk_below K2.out hb)
     have KN := Aside0.mk hbox
     replace HC := Aside0.mk (below_lo HC.out hb (by have := HZ1.out; omega))
     have HGN := Aside0.mk (show m0 + 1 ≤ gn by rw [hgn, HZ1.out]; exact Nat.le_refl _)
     have HZ2 := Aside0.mk (show m0 + 1 ≤ W3.heap.size by rw [← HZ1.out]; exact hb.size)
     replace HF1 := Aside0.mk (Kd.F_below HF1.out hb)
     replace HF2 := Aside0.mk (Kd.F_below HF2.out hb)
     obtain ⟨z0, z1, z2, u0, u1, u2⟩ := blk_cells3 K2.out
     refine hK.out _ _ ⟨z0, z1, z2⟩ (fun hHeld => ?_)
     clear z0 z1 z2 u0 u1 u2 hb hbox hgn
     clear hK K
     refine norm_ (a' := ?_) ?_ ?_
     rotate_left
     · show Act.put _ (some 5) _ = _
       simp only [Act.put, List.setIfInBounds_toArray, List.set_cons_zero, List.set_cons_succ, i64_w, i32_w]
       rfl
     refine one_ (i := 3) (N := some 11) #[true, true, true, true, false, false, true, false] rfl rfl (one_of HT_.out (by kernel_rfl)) (by decide) (fun K hK => ?_)
     refine goes_ Try.func47 (by kernel_rfl) rfl #[.agg #[.bool t.f0, .slice A1 t.f1.length c1, .slice A2 t.f2.length c2]] (by rfl) rfl rfl (by (try simp only [List.map_toArray, List.map_cons, List.map_nil]); first | done | rfl) ?_
     refine (spec_l3Keys.calls (6 * d + 1) _ _ _ _ _ _ _ _ _ (Kd.F_now HF1.out) HL.out.1 (Kd.F_now HF2.out) HL.out.2 hKE.out).mono ?_
     rintro e W2 ⟨v11, rfl, hR, hb⟩
     obtain ⟨A11, c11, rfl⟩ := Kd.R_slice hR
     rw [← HKL.out] at *
     refine ⟨_, rfl, ?_⟩
     replace K2 := Aside0.mk (blk_below K2.out hb)
     replace HC := Aside0.mk (below_lo HC.out hb HZ2.out)
     replace KN := Aside0.mk (blk_below KN.out hb)
     clear hb hR
     obtain ⟨z0, z1, z2, u0, u1, u2⟩ := blk_cells3 K2.out
     refine hK.out _ _ ⟨z0, z1, z2⟩ (fun hHeld => ?_)
     clear z0 z1 z2 u0 u1 u2
     clear hK K
     refine norm_ (a' := ?_) ?_ ?_
     rotate_left
     · show Act.put _ (some 11) _ = _
       simp only [Act.put, List.setIfInBounds_toArray, List.set_cons_zero, List.set_cons_succ, i64_w, i32_w]
       rfl
     refine pure_ (i := 4) (N := some 12) (v := ?_) (a' := ?_) #[true, true, true, true, true, false, true, false] rfl rfl (any_of HT_.out (by kernel_rfl)) (fun _ _ _ h => h) (Or.inl ⟨by rfl, ?_⟩) ?_ ?_
     rotate_left
     · intro w'
       go_simp
       with_reducible rfl
     rotate_left
     · simp only [Act.put, List.setIfInBounds_toArray, List.set_cons_zero, List.set_cons_succ, i64_w, i32_w]
       rfl
     refine pure_ (i := 5) (N := some 13) (v := ?_) (a' := ?_) #[true, true, true, true, true, true, true, false] rfl rfl (any_of HT_.out (by kernel_rfl)) (fun _ _ _ h => h) (Or.inl ⟨by rfl, ?_⟩) ?_ ?_
     rotate_left
     · intro w'
       go_simp
       with_reducible rfl
     rotate_left
     · simp only [Act.put, List.setIfInBounds_toArray, List.set_cons_zero, List.set_cons_succ, i64_w, i32_w]
       rfl
     exact hCont (.slice A11 kl c11, gn) _ ⟨KN, HC, HGN⟩
   rintro ⟨v11, gn⟩ w2 ⟨KN, HC2, HGN⟩
   refine norm_ (a' := ?_) ?_ ?_
   rotate_left
   ·simp only [putAll, Act.put, List.setIfInBounds_toArray, List.set_cons_zero, List.set_cons_succ]
    rfl
   refine last_ (i := 7) (N := none) #[true, true, true, true, true, true, true, true] rfl rfl (one_of HT_.out (by kernel_rfl)) (by decide) (fun K hK => ?_)
   obtain ⟨z0, z1, z2, z3, y0, y1, y2, y3⟩ := blk_cells4 KN.out
   have yl := blk_lt KN.out
   refine skip_ (w1 := ?_) (by rfl) rfl ?_ ?_
   rotate_left
   ·go_simp
    rfl
   refine hK.out _ _ ?_
   clear hK K
   refine done_ (done_of HT_.out (by kernel_rfl)) ?_
   go_wp2_with fail
   go_meet
   case rel => exact ⟨gn, rfl, ⟨blk_put (blk_put (blk_put (blk_put KN.out 0 _ rfl) 1 _ rfl) 2 _ rfl) 3 _ rfl⟩, ⟨(((HC2.out.setCell HGN.out _).setCell HGN.out _).setCell HGN.out _).setCell HGN.out _⟩, HGN⟩
 case rest =>
   obtain ⟨gn, rfl, K5, HC, HGN⟩ := hcut
   have HF1c := Aside0.mk (Kd.F_step HF1.out (fun k hk _ => HC.out.block k (by have := HN0.out; omega)))
   have HF2c := Aside0.mk (Kd.F_step HF2.out (fun k hk _ => HC.out.block k (by have := HN0.out; omega)))
   replace K2 := Aside0.mk ((HC.out.block m0 (by omega)).trans K2.out)
   replace HB := Aside0.mk (below_same HB.out (below_less HC.out (by omega)))
   have HZ1 := Aside0.mk (show m0 + 1 ≤ wc.heap.size by rw [← HZ.out]; exact HC.out.size)
   have HGL := Aside0.mk (show gn < wc.heap.size from blk_lt K5.out)
   clear HF1 HF2 HC HZ z0 z1 z2 u0 u1 u2
   obtain ⟨z0, z1, z2, u0, u1, u2⟩ := blk_cells3 K2.out
   obtain ⟨x0, x1, x2, x3, y0, y1, y2, y3⟩ := blk_cells4 K5.out
   rcases d with _ | d
   case zero =>
    obtain ⟨g0, g1, g2, g3⟩ := HG.out
    rw [g0] at z0 x0
    have HG0 := Aside0.mk g0
    have HG1 := Aside0.mk g1
    have HG2 := Aside0.mk g2
    have HS := Aside0.mk (FS.nil wc (m0 + 1) gn)
    rw [g0] at K5
    clear IH HF2c HP g0 g1 g2 g3
    go_wp2_with (first
     | ((with_reducible refine gate_dst (N := 16) rfl ?_); refine Kd.R_lit Kd.string (w0 := wc) (m0 + 1) 9 ?hg (N := 16) ?hd (xs := ([] : List ByteArray)) (inner := []) (ok := fun _ => True) (okp := fun _ => True) ?hr ?hp (fun _ hk => hk) trivial ?hB ?hS (by simp) ?_; (case hd => rfl); (case hg => rfl); (case hr => first | (go_simp; done) | (go_simp; rfl)); (case hp => exact (Reps.none _ _)); (case hB => exact ⟨rfl, rfl, rfl, Nat.le_refl _, fun _ _ => rfl⟩); (case hS => exact HZ1.out); intro v16 w3 ho hb hg2 hat; have hbn := below_new hb hg2; have HS3 := Aside0.mk (FS.keys HS.out ho hg2 (Or.inr hat) HGL.out); have K53 := Aside0.mk (blk_below K5.out hbn); have K23 := Aside0.mk (blk_below K2.out hbn); have HF13 := Aside0.mk (Kd.F_below HF1c.out hbn); have HB3 := Aside0.mk (below_lo HB.out hbn (Nat.le_of_lt HZ1.out)); have HZ3 := Aside0.mk (Nat.le_trans HZ1.out hbn.size); have HO3 := Aside0.mk ho; clear ho hb hg2 hat hbn HS K5 K2 HF1c HB z0 z1 z2 u0 u1 u2 x0 x1 x2 x3 y0 y1 y2 y3; obtain ⟨z0, z1, z2, u0, u1, u2⟩ := blk_cells3 K23.out; obtain ⟨x0, x1, x2, x3, y0, y1, y2, y3⟩ := blk_cells4 K53.out; rw [HG0.out] at z0)
     | ((with_reducible refine gate_builtin (b := .append) (xs := #[.tmp 16, .tmp 18]) rfl ?_); at_builtin; refine Kd.R_append_rows Kd.string (w0 := w3) (m0 + 1) rfl (.tmp 16) (.tmp 18) 38 9 (.string ⟨#[]⟩) 16 rfl Try.underlying38 info9 rfl (by decide) (by omega) v16 [] t.f1 _ _ _ (fun _ => True) (fun _ => False) rfl rfl ?aO ?aR (fun _ _ h => h) (fun _ h => h.elim) ?aF ?aB ?aS ?aL ?_; (case aR => exact Kd.F_now HF13.out); (case aB => exact Below.refl _ _); (case aF => exact (fun _ _ => trivial)); (case aO => exact HO3.out); (case aS => exact HZ3.out); (case aL => have := HG2.out; simp; omega); intro v19 w4 ho hb hg2 hat; rw [List.nil_append] at ho; have HS4 := Aside0.mk (FS.keys HS3.out ho hg2 hat (blk_lt K53.out)); have K54 := Aside0.mk (blk_grown K53.out hg2 HS3.out.kg); have HB4 := Aside0.mk (below_same HB3.out (below_less hb (by omega))); obtain ⟨A19, c19, e19⟩ := Kd.R_slice ho; subst e19; clear ho hb hg2 hat HS3 K53 K23 HF13 HB3 HO3 z0 z1 z2 u0 u1 u2 x0 x1 x2 x3 y0 y1 y2 y3; obtain ⟨x0, x1, x2, x3, y0, y1, y2, y3⟩ := blk_cells4 K54.out)
     | fail)
    go_ret
    have HS5 := HS4.out.far 1 (.slice A19 t.f1.length c19)
    have HZ5 := Aside0.mk (show m0 ≤ (w4.setCell ⟨gn, 1, none⟩ (.slice A19 t.f1.length c19)).heap.size by rw [sz_set]; have := blk_lt K54.out; have := HGN.out; omega)
    have hfin := N_lit1 (e := 90) (base := m0) (HS5.node true (kl : Int)) (ok := fun k => m0 ≤ k) (fun _ h => by omega) HZ5.out HZ5.out
    rw [sz_set] at hfin
    rw [← HN.out]
    refine ⟨_, rfl, ?_, ?_⟩
    ·rw [show flatD 0 t a = [⟨true, t.f1, [], (kl : Int)⟩] by rw [HKL.out]; rfl]
     exact hfin
    ·exact (show Below m0 W (w4.setCell ⟨gn, 1, none⟩ (.slice A19 t.f1.length c19)) from HB4.out.setCell (by show m0 ≤ gn; have := HGN.out; omega) _).alloc HZ5.out _
   case succ =>
    obtain ⟨g0, g1, g2, g3, g4⟩ := HG.out
    rw [g0] at z0 x0
    have HG0 := Aside0.mk g0
    have HG2 := Aside0.mk g2
    have HG3 := Aside0.mk g3
    have HG4 := Aside0.mk g4
    have HS := Aside0.mk (FS.nil wc (m0 + 1) gn)
    rw [g0] at K5
    clear HF1c g0 g1 g2 g3 g4
    go_wp2_with (first
     | ((with_reducible refine gate_dst (N := 23) rfl ?_); refine Kd.N_lit k90 (w0 := wc) (m0 + 1) 90 ?hg (N' := 23) ?hd (xs := ([] : List S90)) (inner := []) (ok := fun k => ((m0 + 1 ≤ k ∧ k ≠ gn) ∧ some k ≠ (Value.slice none 0 0).ownBlock) ∧ some k ≠ (Value.slice none 0 0).ownBlock) (okp := fun _ => False) ?hr ?hp (fun _ hk => hk.elim) ?hF ?hB ?hS (by simp) ?_; (case hd => rfl); (case hg => rfl); (case hr => first | (go_simp; done) | (go_simp; rfl)); (case hp => exact (Reps.none _ _)); (case hB => exact ⟨rfl, rfl, rfl, Nat.le_refl _, fun _ _ => rfl⟩); (case hS => exact HZ1.out); (case hF => exact (HS.out.fresh HZ1.out HGL.out _ (Nat.le_refl _)).1); intro v23 w3 ho hb hg2 hat; have hbn := below_new hb hg2; have HS3 := Aside0.mk (FS.rest HS.out ho hg2); have K53 := Aside0.mk (blk_below K5.out hbn); have HC3 := Aside0.mk (below_less (lo := m0 + 1) hbn HZ1.out); obtain ⟨A23, c23, e23⟩ := Kd.N_slice ho; subst e23; clear ho hb hg2 hat hbn HS z0 z1 z2 u0 u1 u2 x0 x1 x2 x3 y0 y1 y2 y3)
     | fail)
    have HC4 := HC3
    clear HC3
    go_loopg [6, 7] t.f2.length (fun kq v6 v7 w' => ∃ (j : Nat) (A3 : Option Addr) (c3 n4 : Nat) (A4 : Option Addr) (c4 n5 : Nat) (A5 : Option Addr) (c5 : Nat) (ks : List ByteArray) (is : List Int) (rs : List S90), v7 = .int .i64 (j : Int) ∧ v6 = .slice A3 rs.length c3 ∧ Aside0 (j ≤ t.f2.length ∧ t.f2.length ≤ kq + j) ∧ Aside0 (ks = sepL d (t.f2.take j) ∧ is = noL (flatD d) (t.f2.take j) (a + 1) ∧ rs = flatL (flatD d) (t.f2.take j) (a + 1)) ∧ Aside0 (w'.heap[gn]? = some (.cells #[.bool false, .slice A4 n4 c4, .slice A5 n5 c5, .int .i64 (kl : Int)] 90 (0, 0))) ∧ Aside0 (FS w' (m0 + 1) gn (.slice A4 n4 c4) (.slice A5 n5 c5) (.slice A3 rs.length c3) ks is rs) ∧ Aside0 (Below (m0 + 1) wc w'))
    case atStart => exact ⟨0, A23, c23, 0, none, 0, 0, none, 0, [], [], [], rfl, rfl, ⟨by omega, by omega⟩, ⟨by simp [sepL], by simp [noL], by simp [flatL]⟩, K53, HS3, HC4⟩
    case round =>
     clear K53 HS3 HC4 K5
     obtain ⟨j, A3, c3, n4, A4, c4, n5, A5, c5, ks, is, rs, rfl, rfl, HI, HQ, K5, HS, HC⟩ := hrel
     replace K2 := Aside0.mk ((HC.out.block m0 (by omega)).trans K2.out)
     have HF2 := Aside0.mk (Kd.F_step HF2c.out (fun k hk _ => HC.out.block k (by have := HN0.out; omega)))
     replace HB := Aside0.mk (below_same HB.out (below_less HC.out (by omega)))
     have HZ := Aside0.mk (show m0 + 1 ≤ wr.heap.size from Nat.le_trans HZ1.out HC.out.size)
     replace HGL := Aside0.mk (show gn < wr.heap.size from blk_lt K5.out)
     obtain ⟨z0, z1, z2, u0, u1, u2⟩ := blk_cells3 K2.out
     obtain ⟨x0, x1, x2, x3, y0, y1, y2, y3⟩ := blk_cells4 K5.out
     rw [HG0.out] at z0
     by_cases cj : j < t.f2.length
     case neg =>
       have cjb : decide (j < t.f2.length) = false := decide_eq_false cj
       have hj : j = t.f2.length := by have := HI.out; omega
       have HK4 := Aside0.mk (show rs.length ≤ 4 ^ (d + 2) by rw [HQ.out.2.2, hj, List.take_length]; exact flatL_le _ HG3.out HG4.out)
       have HP4 := Aside0.mk (pow4 (d + 2) 13 (by have := HP.out; omega))
       have HF := Aside0.mk (show flatD (d + 1) t a = [⟨false, ks, is, (kl : Int)⟩] ++ rs by
         rw [HQ.out.1, HQ.out.2.1, HQ.out.2.2, hj, List.take_length, HKL.out]
         rfl)
       clear hj
       go_wp2_with ((with_reducible refine gate_builtin (b := .append) (xs := #[.tmp 70, .tmp 71]) rfl ?_); at_builtin; refine Kd.N_append_rows k90 (w0 := wr.alloc (.cells #[.bool false, .slice A4 n4 c4, .slice A5 n5 c5, .int .i64 (kl : Int)] 90)) m0 rfl (.tmp 70) (.tmp 71) 22 90 (.agg #[(.bool false), (.slice none 0 0), (.slice none 0 0), (.int .i64 0)]) 64 rfl Try.underlying22 info90 rfl (by decide) (by omega) (.slice (some ⟨wr.heap.size, 0, none⟩) 1 1) [⟨false, ks, is, (kl : Int)⟩] rs _ _ _ (fun k => m0 ≤ k) (fun k => m0 ≤ k ∧ k < wr.heap.size) rfl rfl ?aO ?aR (fun k hk => ⟨hk.1, fun he => absurd hk.2 (by rw [show k = wr.heap.size by simpa [Value.ownBlock] using he]; exact Nat.lt_irrefl _)⟩) ?aF ?aB ?aS ?aL ?_; (case aO => exact N_lit1 (HS.out.node false (kl : Int)) (fun _ h => by omega) (by have := HZ.out; omega) (by have := HZ.out; omega)); (case aR => exact Kd.F_alloc (Kd.F_mono (Kd.F_bound (Kd.N_F HS.out.rr)) (fun k hk => ⟨by have := hk.1.1.1.1; omega, hk.2⟩)) _); (case aB => exact Below.refl _ _); (case aF => exact fun k hk => by have h2 := below_sz (below_alloc (Below.refl wr.heap.size wr) (.cells #[.bool false, .slice A4 n4 c4, .slice A5 n5 c5, .int .i64 (kl : Int)] 90)); have := HZ.out; omega); (case aS => exact (by have h2 := below_sz (below_alloc (Below.refl wr.heap.size wr) (.cells #[.bool false, .slice A4 n4 c4, .slice A5 n5 c5, .int .i64 (kl : Int)] 90)); have := HZ.out; omega)); (case aL => have := HK4.out; have := HP4.out; simp; omega); intro v72 w9 ho hb hg hat; have HR := Aside0.mk ho; have HB9 := Aside0.mk (below_same (below_lo HB.out (below_alloc (Below.refl _ _) _) (by have := HZ.out; omega)) hb); obtain ⟨A72, c72, e72⟩ := Kd.N_slice ho; subst e72; clear ho hb hg hat)
       go_ret
       rw [← HN.out]
       exact ⟨_, rfl, by rw [HF.out]; exact HR.out, HB9.out⟩
     case pos =>
       have cjb : decide (j < t.f2.length) = true := decide_eq_true cj
       have CJ := Aside0.mk cj
       clear cj
       have HLR := Aside0.mk (show rs.length ≤ 4 ^ (d + 2) by rw [HQ.out.2.2]; exact flatL_le _ (by rw [List.length_take]; have := HG3.out; omega) (fun k hk => HG4.out k (List.mem_of_mem_take hk)))
       have HP4 := Aside0.mk (pow4 (d + 2) 13 (by have := HP.out; omega))
       have HWA := Aside0.mk (show wrap64 (a + 1) = a + 1 by have h1 := HP.out; unfold wrap64; omega)
       have HWB := Aside0.mk (show wrap64 (a + 1 + (rs.length : Int)) = a + 1 + (rs.length : Int) by have h1 := HP.out; have := HLR.out; have := HP4.out; unfold wrap64; omega)
       have HIL := Aside0.mk (show is.length ≤ 4 by rw [HQ.out.2.1, noL_length, List.length_take]; have := HG3.out; omega)
       go_upto_if 42 with ((with_reducible refine gate_builtin (b := .append) (xs := #[.tmp 32, .tmp 38]) rfl ?_); at_builtin; (try rw [HWA.out]); (try rw [HWB.out]); refine Kd.R_append (Kd.int .i64) (w0 := wr) (m0 + 1) rfl (.tmp 32) (.tmp 38) 88 2 (.int .i64 0) 8 rfl Try.underlying88 info2 rfl (by decide) (by omega) (.slice A5 n5 c5) is (a + 1 + (rs.length : Int)) [.int .i64 (a + 1 + (rs.length : Int))] (fun _ => True) (fun _ => False) rfl rfl ?aP (fun _ hk => hk.elim) ?aF ?aO ?aB ?aS ?aL ?_; (case aP => exact rfl); (case aB => exact Below.refl _ _); (case aF => exact (fun _ _ => trivial)); (case aO => exact HS.out.ir); (case aS => exact HZ.out); (case aL => have := HIL.out; omega); intro v39 w5 ho hb hg hat; have HS5 := Aside0.mk (FS.kids HS.out ho hg hat HGL.out); have K55 := Aside0.mk (blk_grown K5.out hg HS.out.ig); have HC5 := Aside0.mk (below_same HC.out hb); have K25 := Aside0.mk ((hb.block m0 (by omega)).trans K2.out); have HF25 := Aside0.mk (Kd.F_step HF2.out (fun k hk _ => hb.block k (by have := HN0.out; omega))); obtain ⟨A39, c39, e39⟩ := Kd.R_slice ho; subst e39; clear ho hb hg hat HS K5 HC K2 HF2 z0 z1 z2 u0 u1 u2 x0 x1 x2 x3 y0 y1 y2 y3; obtain ⟨x0, x1, x2, x3, y0, y1, y2, y3⟩ := blk_cells4 K55.out; obtain ⟨z0, z1, z2, u0, u1, u2⟩ := blk_cells3 K25.out; rw [HG0.out] at z0)
       rw [show (is ++ [a + 1 + (rs.length : Int)]).length = is.length + 1 by simp] at HS5
       obtain ⟨is2, his2⟩ : ∃ is2, is2 = is ++ [a + 1 + (rs.length : Int)] := ⟨_, rfl⟩
       have HI2 := Aside0.mk (show is2 = noL (flatD d) (t.f2.take (j + 1)) (a + 1) by rw [his2, noL_take CJ.out, HQ.out.2.1, HQ.out.2.2])
       obtain ⟨n6, hn6⟩ : ∃ n6, n6 = is.length + 1 := ⟨_, rfl⟩
       rw [← his2, ← hn6] at HS5
       rw [← hn6]
       have K56 := Aside0.mk (show (w5.setCell ⟨gn, 2, none⟩ (.slice A39 n6 c39)).heap[gn]? = some (.cells #[.bool false, .slice A4 n4 c4, .slice A39 n6 c39, .int .i64 (kl : Int)] 90 (0, 0)) from blk_put K55.out 2 _ rfl)
       have HS6 := Aside0.mk (HS5.out.far 2 (.slice A39 n6 c39))
       have K26 := Aside0.mk (blk_far K25.out (p := ⟨gn, 2, none⟩) (show m0 ≠ gn by have := HGN.out; omega) (.slice A39 n6 c39))
       have HC6 := Aside0.mk (show Below (m0 + 1) wc (w5.setCell ⟨gn, 2, none⟩ (.slice A39 n6 c39)) from HC5.out.setCell HGN.out _)
       have HF26 := Aside0.mk (Kd.F_far HF25.out (p := ⟨gn, 2, none⟩) (fun k hk => by have := HN0.out; have := HGN.out; show k ≠ gn; omega) (.slice A39 n6 c39))
       have HI0 := HI
       clear HS5 K55 K25 HC5 HF25 hn6 his2 HIL HGL HI x0 x1 x2 x3 y0 y1 y2 y3 z0 z1 z2 u0 u1 u2
       generalize (w5.setCell ⟨gn, 2, none⟩ (.slice A39 n6 c39)) = W6 at *
       have HZ6 := Aside0.mk (show m0 + 1 ≤ W6.heap.size from Nat.le_trans HZ1.out HC6.out.size)
       obtain ⟨ad2, B1, b1, B2, b2, rfl, q0, q1, q2, fk, bl1, bf1, bl2, bf2, hkb⟩ := at_F56r HF26.out j CJ.out
       obtain ⟨kid, hkid⟩ : ∃ kid, kid = rd_T56 t.f2 (j : Int) := ⟨_, rfl⟩
       have HKid := Aside0.mk (show kid = t.f2[j]'CJ.out from hkid.trans (rd56_at _ _ CJ.out))
       have HKG := Aside0.mk (show goodD d false kid by rw [HKid.out]; exact HG4.out _ (List.getElem_mem _))
       rw [← hkid] at q0 q1 q2 fk bl1 bf1 bl2 bf2
       have HFK := Aside0.mk fk
       have HBL := Aside0.mk (And.intro bl1 bl2)
       have HBF1 := Aside0.mk bf1
       have HBF2 := Aside0.mk bf2
       have HQ0 := Aside0.mk (And.intro q0 (And.intro q1 q2))
       have HKB := Aside0.mk hkb
       clear hkid fk bl1 bf1 bl2 bf2 q0 q1 q2 hkb
       go_cut [] (fun w' => ∃ (A7 : Option Addr) (n7 c7 : Nat) (ks2 : List ByteArray), Aside0 (ks2 = sepL d (t.f2.take (j + 1))) ∧ Aside0 (w'.heap[gn]? = some (.cells #[.bool false, .slice A7 n7 c7, .slice A39 n6 c39, .int .i64 (kl : Int)] 90 (0, 0))) ∧ Aside0 (FS w' (m0 + 1) gn (.slice A7 n7 c7) (.slice A39 n6 c39) (.slice A3 rs.length c3) ks2 is2 rs) ∧ Aside0 (Below (m0 + 1) W6 w'))
       case first =>
         clear IH HF2c HI0
         by_cases c0 : 0 < j
         case neg =>
           have hj0 : j = 0 := by omega
           rw [show decide (0 < j) = false from decide_eq_false c0]
           have hk1 : ks = sepL d (t.f2.take (j + 1)) := by
            rw [HQ.out.1, hj0]
            rcases t.f2 with _ | ⟨y, l⟩ <;> simp [sepL]
           clear hj0 c0
           go_wp2_with fail
           go_meet
           case rel => exact ⟨A4, n4, c4, ks, ⟨hk1⟩, K56, HS6, ⟨Below.refl _ _⟩⟩
         case pos =>
           rw [show decide (0 < j) = true from decide_eq_true c0]
           have hk1 : ks ++ [headK d kid] = sepL d (t.f2.take (j + 1)) := by rw [sepL_take CJ.out c0, HQ.out.1, HKid.out]
           have HK1 := Aside0.mk hk1
           clear hk1 c0
           have p5 : (0 ≤ (j : Int)) = True := eq_true (by omega)
           have q5 : ((j : Int) < (t.f2.length : Int)) = True := eq_true (by have := CJ.out; omega)
           go_upto_region 11 with (fail)
           have HKE := Aside0.mk (keys_at d false kid (6 * d + 1) HKG.out (by have := HP.out; omega) (Nat.le_refl _))
           obtain ⟨Ks, hKs⟩ : ∃ Ks, Ks = keysD d kid := ⟨_, rfl⟩
           have HKP := Aside0.mk (show 0 < Ks.length by rw [hKs]; exact keysD_pos HKG.out)
           have HKH := Aside0.mk (show rdOf ByteArray.empty Ks 0 = headK d kid by rw [hKs]; rfl)
           rw [← hKs] at HKE
           clear hKs
           refine start_ (n := 14) (S := fun w' => w'.heap[m0]? = some (.cells #[.bool t.f0, .slice A1 t.f1.length c1, .slice (some ad2) t.f2.length c2] 56 (0, 0)) ∧ w'.heap[gn]? = some (.cells #[.bool false, .slice A4 n4 c4, .slice A39 n6 c39, .int .i64 (kl : Int)] 90 (0, 0)) ∧ (w'.cell? (ad2.add (j * 3)) = some (.bool kid.f0) ∧ w'.cell? ⟨(ad2.add (j * 3)).block, (ad2.add (j * 3)).off + 1, none⟩ = some (.slice B1 kid.f1.length b1) ∧ w'.cell? ⟨(ad2.add (j * 3)).block, (ad2.add (j * 3)).off + 2, none⟩ = some (.slice B2 kid.f2.length b2))) (ds := [13]) #[false, false, false, false, false, false, false, false, false, false, false, false, false, false] (by kernel_rfl) rfl rfl ⟨K26.out, K56.out, HQ0.out⟩ (fun hHeld => ?_); refine with_tabW flat.gtab11 flat.gbits11 (fun HT_ HW_ => ?_)
           have hbd : Below W6.heap.size W6 W6.drew := below_drew (Below.refl _ _)
           replace K26 := Aside0.mk (blk_below K26.out hbd)
           replace K56 := Aside0.mk (blk_below K56.out hbd)
           replace HS6 := Aside0.mk (HS6.out.below hbd)
           replace HQ0 := Aside0.mk (And.intro (cell_stay hbd HQ0.out.1) (And.intro (cell_stay hbd HQ0.out.2.1) (cell_stay hbd HQ0.out.2.2)))
           replace HBF1 := Aside0.mk (Kd.F_below HBF1.out hbd)
           replace HBF2 := Aside0.mk (Kd.F_below HBF2.out hbd)
           have HCB := Aside0.mk (below_less hbd HZ6.out)
           replace HZ6 := Aside0.mk (show m0 + 1 ≤ W6.drew.heap.size from Nat.le_trans HZ6.out hbd.size)
           clear hbd
           generalize W6.drew = W7 at *
           refine pure_ (i := 0) (N := some 43) (v := ?_) (a' := ?_) #[true, false, false, false, false, false, false, false, false, false, false, false, false, false] rfl rfl (any_of HT_.out (by kernel_rfl)) (fun _ _ _ h => h) (Or.inl ⟨by rfl, ?_⟩) ?_ ?_
           rotate_left
           ·intro w'
            go_simp
            with_reducible rfl
           rotate_left
           ·simp only [Act.put, List.setIfInBounds_toArray, List.set_cons_zero, List.set_cons_succ, i64_w, i32_w]
            rfl
           refine take_ (i := 1) (N := some 44) (v := ?_) (a' := ?_) #[true, true, false, false, false, false, false, false, false, false, false, false, false, false] rfl rfl (take_ofW HT_.out HW_.out (by kernel_rfl)) (fun _ _ _ h => h) (Or.inl ⟨by rfl, ?_⟩) hHeld ?_ ?_
           rotate_left
           ·rintro w' ⟨s0, s1, s2⟩
            obtain ⟨x0, x1, x2, x3, y0, y1, y2, y3⟩ := blk_cells4 s1
            go_simp
            with_reducible rfl
           rotate_left
           ·simp only [Act.put, List.setIfInBounds_toArray, List.set_cons_zero, List.set_cons_succ, i64_w, i32_w]
            rfl
           refine pure_ (i := 2) (N := some 45) (v := ?_) (a' := ?_) #[true, true, true, false, false, false, false, false, false, false, false, false, false, false] rfl rfl (any_of HT_.out (by kernel_rfl)) (fun _ _ _ h => h) (Or.inl ⟨by rfl, ?_⟩) ?_ ?_
           rotate_left
           ·intro w'
            go_simp
            with_reducible rfl
           rotate_left
           ·simp only [Act.put, List.setIfInBounds_toArray, List.set_cons_zero, List.set_cons_succ, i64_w, i32_w]
            rfl
           refine take_ (i := 3) (N := some 46) (v := ?_) (a' := ?_) #[true, true, true, true, false, false, false, false, false, false, false, false, false, false] rfl rfl (take_ofW HT_.out HW_.out (by kernel_rfl)) (fun _ _ _ h => h) (Or.inl ⟨by rfl, ?_⟩) hHeld ?_ ?_
           rotate_left
           ·rintro w' ⟨s0, s1, s2⟩
            obtain ⟨z0, z1, z2, u0, u1, u2⟩ := blk_cells3 s0
            go_simp
            with_reducible rfl
           rotate_left
           ·simp only [Act.put, List.setIfInBounds_toArray, List.set_cons_zero, List.set_cons_succ, i64_w, i32_w]
            rfl
           refine pure_ (i := 4) (N := some 47) (v := ?_) (a' := ?_) #[true, true, true, true, true, false, false, false, false, false, false, false, false, false] rfl rfl (any_of HT_.out (by kernel_rfl)) (fun _ _ _ h => h) (Or.inl ⟨by rfl, ?_⟩) ?_ ?_
           rotate_left
           ·intro w'
            go_simp
            with_reducible rfl
           rotate_left
           ·simp only [Act.put, List.setIfInBounds_toArray, List.set_cons_zero, List.set_cons_succ, i64_w, i32_w]
            rfl
           refine pure_ (i := 5) (N := some 48) (v := ?_) (a' := ?_) #[true, true, true, true, true, true, false, false, false, false, false, false, false, false] rfl rfl (any_of HT_.out (by kernel_rfl)) (fun _ _ _ h => h) (Or.inl ⟨by rfl, ?_⟩) ?_ ?_
           rotate_left
           ·intro w'
            go_simp
            with_reducible rfl
           rotate_left
           ·simp only [Act.put, List.setIfInBounds_toArray, List.set_cons_zero, List.set_cons_succ, i64_w, i32_w]
            rfl
           refine take_ (i := 6) (N := some 49) (v := ?_) (a' := ?_) #[true, true, true, true, true, true, true, false, false, false, false, false, false, false] rfl rfl (take_ofW HT_.out HW_.out (by kernel_rfl)) (fun _ _ _ h => h) (Or.inl ⟨by rfl, ?_⟩) hHeld ?_ ?_
           rotate_left
           ·rintro w' ⟨s0, s1, s2⟩
            obtain ⟨q0, q1, q2⟩ := s2
            go_simp
            with_reducible rfl
           rotate_left
           ·simp only [Act.put, List.setIfInBounds_toArray, List.set_cons_zero, List.set_cons_succ, i64_w, i32_w]
            rfl
           refine one_ (i := 7) (N := some 50) #[true, true, true, true, true, true, true, true, false, false, false, false, false, false] rfl rfl (one_of HT_.out (by kernel_rfl)) (by decide) (fun K hK => ?_)
           refine goes_ Try.func47 (by kernel_rfl) rfl #[.agg #[.bool kid.f0, .slice B1 kid.f1.length b1, .slice B2 kid.f2.length b2]] (by rfl) rfl rfl (by (try simp only [List.map_toArray, List.map_cons, List.map_nil]); first | done | rfl) ?_
           refine (spec_l3Keys.calls (6 * d + 1) _ _ _ _ _ _ _ _ _ (Kd.F_now HBF1.out) HBL.out.1 (Kd.F_now HBF2.out) HBL.out.2 HKE.out).mono ?_
           rintro e W8 ⟨v50, rfl, hR, hb⟩
           refine ⟨_, rfl, ?_⟩
           obtain ⟨A50, c50, rfl⟩ := Kd.R_slice hR
           obtain ⟨ad50, rfl, h50⟩ := Kd.at_string (Kd.R_reads' hR).2.2 0 (by decide) (by have := HKP.out; omega)
           rw [HKH.out] at h50
           have H50 := Aside0.mk h50
           have q50 : (0 < Ks.length) = True := eq_true HKP.out
           clear hR h50
           replace K26 := Aside0.mk (blk_below K26.out hb)
           replace K56 := Aside0.mk (blk_below K56.out hb)
           replace HS6 := Aside0.mk (HS6.out.below hb)
           replace HQ0 := Aside0.mk (And.intro (cell_stay hb HQ0.out.1) (And.intro (cell_stay hb HQ0.out.2.1) (cell_stay hb HQ0.out.2.2)))
           replace HCB := Aside0.mk (below_lo HCB.out hb HZ6.out)
           replace HZ6 := Aside0.mk (Nat.le_trans HZ6.out (below_sz hb))
           clear hb
           refine hK.out _ _ ⟨K26.out, K56.out, HQ0.out⟩ (fun hHeld => ?_)
           clear hK K
           refine norm_ (a' := ?_) ?_ ?_
           rotate_left
           ·show Act.put _ (some 50) _ = _
            simp only [Act.put, List.setIfInBounds_toArray, List.set_cons_zero, List.set_cons_succ, i64_w, i32_w]
            rfl
           refine pure_ (i := 8) (N := some 51) (v := ?_) (a' := ?_) #[true, true, true, true, true, true, true, true, true, false, false, false, false, false] rfl rfl (any_of HT_.out (by kernel_rfl)) (fun _ _ _ h => h) (Or.inl ⟨by rfl, ?_⟩) ?_ ?_
           rotate_left
           ·intro w'
            go_simp
            with_reducible rfl
           rotate_left
           ·simp only [Act.put, List.setIfInBounds_toArray, List.set_cons_zero, List.set_cons_succ, i64_w, i32_w]
            rfl
           refine one_ (i := 9) (N := some 52) #[true, true, true, true, true, true, true, true, true, true, false, false, false, false] rfl rfl (one_of HT_.out (by kernel_rfl)) (by decide) (fun K hK => ?_)
           have h50 := H50.out
           simp only [Int.toNat_zero, Addr.add_zero'] at h50
           refine value_ (w1 := ?_) (v := ?_) (by rfl) rfl ?_ ?_
           rotate_left 2
           ·go_simp
            constructor
            ·rfl
            ·rfl
           refine hK.out _ _ ⟨K26.out, K56.out, HQ0.out⟩ (fun hHeld => ?_)
           clear h50 H50
           clear hK K
           refine norm_ (a' := ?_) ?_ ?_
           rotate_left
           ·show Act.put _ (some 52) _ = _
            simp only [Act.put, List.setIfInBounds_toArray, List.set_cons_zero, List.set_cons_succ, i64_w, i32_w]
            rfl
           refine one_ (i := 10) (N := some 53) #[true, true, true, true, true, true, true, true, true, true, true, false, false, false] rfl rfl (one_of HT_.out (by kernel_rfl)) (by decide) (fun K hK => ?_)
           refine value_ (w1 := ?_) (v := ?_) (by rfl) rfl ?_ ?_
           rotate_left 2
           ·go_simp
            constructor
            ·rfl
            ·rfl
           have hba : Below W8.heap.size W8 (W8.alloc (.cells #[.string (headK d kid)] 9)) := below_alloc (Below.refl _ _) _
           refine hK.out _ _ ⟨blk_below K26.out hba, blk_below K56.out hba, cell_stay hba HQ0.out.1, cell_stay hba HQ0.out.2.1, cell_stay hba HQ0.out.2.2⟩ (fun hHeld => ?_)
           clear hba
           clear hK K
           refine norm_ (a' := ?_) ?_ ?_
           rotate_left
           ·show Act.put _ (some 53) _ = _
            simp only [Act.put, List.setIfInBounds_toArray, List.set_cons_zero, List.set_cons_succ, i64_w, i32_w]
            rfl
           refine one_ (i := 11) (N := some 54) #[true, true, true, true, true, true, true, true, true, true, true, true, false, false] rfl rfl (one_of HT_.out (by kernel_rfl)) (by decide) (fun K hK => ?_)
           refine Kd.R_append_step Kd.string (w0 := W8) (W := W8) (m0 + 1) (by rfl) (.tmp 44) (.tmp 53) 38 9 (.string ⟨#[]⟩) 16 rfl Try.underlying38 info9 rfl (by decide) (by omega) (.slice A4 n4 c4) ks (headK d kid) [.string (headK d kid)] (fun _ => True) (fun _ => False) rfl rfl ?aP (fun _ hk => hk.elim) ?aF ?aO ?aB ?aS ?aL ?_
           case aP => exact rfl
           case aB => exact Below.refl _ _
           case aF => exact (fun _ _ => trivial)
           case aO => exact HS6.out.kr
           case aS => exact HZ6.out
           case aL => rw [show ks.length = j - 1 by rw [HQ.out.1]; simp only [sepL, List.length_map, List.length_drop, List.length_take]; have := CJ.out; omega]; have := HG3.out; have := CJ.out; omega
           intro v54 w9 ho hb hg hat
           have HS9 := Aside0.mk (FS.keys HS6.out ho hg hat (blk_lt K56.out))
           have K59 := Aside0.mk (blk_grown K56.out hg HS6.out.kg)
           have K29 := Aside0.mk ((hb.block m0 (by omega)).trans K26.out)
           have HCB9 := Aside0.mk (below_same HCB.out hb)
           have hq9 : w9.cell? (ad2.add (j * 3)) = some (.bool kid.f0) ∧ w9.cell? ⟨(ad2.add (j * 3)).block, (ad2.add (j * 3)).off + 1, none⟩ = some (.slice B1 kid.f1.length b1) ∧ w9.cell? ⟨(ad2.add (j * 3)).block, (ad2.add (j * 3)).off + 2, none⟩ = some (.slice B2 kid.f2.length b2) := by
            have hcs : ∀ {x : Addr} {v : Value}, x.block < n0 → W8.cell? x = some v → w9.cell? x = some v := fun {x v} hx h => by simpa [World.cell?, hb.block x.block (by have := HN0.out; omega)] using h
            have hblk : (ad2.add (j * 3)).block < n0 := HKB.out
            exact ⟨hcs hblk HQ0.out.1, hcs hblk HQ0.out.2.1, hcs hblk HQ0.out.2.2⟩
           obtain ⟨A54, c54, e54⟩ := Kd.R_slice ho
           subst e54
           clear ho hb hg hat
           refine hK.out _ _ ⟨K29.out, K59.out, hq9⟩ (fun hHeld => ?_)
           clear hq9 HS6 K56 K26 HCB
           clear hK K
           refine norm_ (a' := ?_) ?_ ?_
           rotate_left
           ·show Act.put _ (some 54) _ = _
            simp only [Act.put, List.setIfInBounds_toArray, List.set_cons_zero, List.set_cons_succ, i64_w, i32_w]
            rfl
           refine pure_ (i := 12) (N := some 55) (v := ?_) (a' := ?_) #[true, true, true, true, true, true, true, true, true, true, true, true, true, false] rfl rfl (any_of HT_.out (by kernel_rfl)) (fun _ _ _ h => h) (Or.inl ⟨by rfl, ?_⟩) ?_ ?_
           rotate_left
           ·intro w'
            go_simp
            with_reducible rfl
           rotate_left
           ·simp only [Act.put, List.setIfInBounds_toArray, List.set_cons_zero, List.set_cons_succ, i64_w, i32_w]
            rfl
           refine last_ (i := 13) (N := none) #[true, true, true, true, true, true, true, true, true, true, true, true, true, true] rfl rfl (one_of HT_.out (by kernel_rfl)) (by decide) (fun K hK => ?_)
           obtain ⟨x0, x1, x2, x3, y0, y1, y2, y3⟩ := blk_cells4 K59.out
           have yl := blk_lt K59.out
           refine skip_ (w1 := ?_) (by rfl) rfl ?_ ?_
           rotate_left
           ·go_simp
            rfl
           refine hK.out _ _ ?_
           clear hK K
           refine done_ (done_of HT_.out (by kernel_rfl)) ?_
           go_wp2_with fail
           go_meet
           case rel => exact ⟨A54, ks.length + 1, c54, ks ++ [headK d kid], HK1, ⟨blk_put K59.out 1 _ rfl⟩, ⟨by rw [← List.length_singleton (a := headK d kid), ← List.length_append]; exact HS9.out.far 1 _⟩, ⟨HCB9.out.setCell HGN.out _⟩⟩
       case rest =>
         obtain ⟨A7, n7, c7, ks2, HK2, K57, HS7, HCB⟩ := hcut
         replace K26 := Aside0.mk ((HCB.out.block m0 (by omega)).trans K26.out)
         have HFK7 := Aside0.mk (Kd.FK_step HFK.out (fun k hk _ => HCB.out.block k (by have := HN0.out; omega)))
         have hcs : ∀ {x : Addr} {v : Value}, x.block < n0 → W6.cell? x = some v → wc.cell? x = some v := fun {x v} hx h => by simpa [World.cell?, HCB.out.block x.block (by have := HN0.out; omega)] using h
         have hblk : (ad2.add (j * 3)).block < n0 := HKB.out
         have q0 := hcs hblk HQ0.out.1
         have q1 := hcs (x := ⟨(ad2.add (j * 3)).block, (ad2.add (j * 3)).off + 1, none⟩) hblk HQ0.out.2.1
         have q2 := hcs (x := ⟨(ad2.add (j * 3)).block, (ad2.add (j * 3)).off + 2, none⟩) hblk HQ0.out.2.2
         replace HC6 := Aside0.mk (below_same HC6.out HCB.out)
         have HZ7 := Aside0.mk (show m0 + 1 ≤ wc.heap.size from Nat.le_trans HZ6.out HCB.out.size)
         have HGL := Aside0.mk (show gn < wc.heap.size from blk_lt K57.out)
         have hzs : n0 ≤ wc.heap.size := by have := HN0.out; have := HZ7.out; omega
         clear hcs hblk HCB HF26 K56 HS6 HBF1 HBF2 HQ0 HFK HKB HZ6 HBL
         obtain ⟨z0, z1, z2, u0, u1, u2⟩ := blk_cells3 K26.out
         have p5 : (0 ≤ (j : Int)) = True := eq_true (by omega)
         have q5 : ((j : Int) < (t.f2.length : Int)) = True := eq_true (by have := CJ.out; omega)
         obtain ⟨P, hP⟩ : ∃ P, P = 4 ^ (d + 2) := ⟨_, rfl⟩
         have HPP := Aside0.mk hP
         have hB4 : B = 4 * P := by rw [HBB.out, hP, Nat.pow_succ 4 (d + 2)]; omega
         have HB4 := Aside0.mk hB4
         clear hB4 hP
         go_wp2_with fail
         try rw [HWA.out]
         try rw [HWB.out]
         refine (IH.out d (Nat.lt_succ_self d) false kid (a + 1 + (rs.length : Int)) B1 b1 B2 b2 wc HKG.out (by have := HP.out; omega) P HPP.out (by have := HP.out; omega) (by have := HP.out; have := HB4.out; have h9 := HLR.out; rw [← HPP.out] at h9; have h8 : 0 < P := Nat.lt_of_lt_of_eq (Nat.pow_pos (by decide)) HPP.out.symm; omega) HFK7.out hzs).mono ?_
         clear hzs q0 q1 q2 z0 z1 z2 u0 u1 u2 p5 q5 HFK7
         rintro e W8 ⟨v67, rfl, hN, hb⟩
         have HFL := Aside0.mk (flatD_le (a + 1 + (rs.length : Int)) HKG.out)
         have HFLP := Aside0.mk (pow4 (d + 1) 13 (by have := HP.out; omega))
         have HRS := Aside0.mk (show rs ++ flatD d kid (a + 1 + (rs.length : Int)) = flatL (flatD d) (t.f2.take (j + 1)) (a + 1) by rw [flatL_take CJ.out, ← HQ.out.2.2, HKid.out])
         obtain ⟨fl, hfl⟩ : ∃ fl, fl = flatD d kid (a + 1 + (rs.length : Int)) := ⟨_, rfl⟩
         rw [← hfl] at hN HFL HRS
         clear hfl
         obtain ⟨A67, c67, rfl⟩ := Kd.N_slice hN
         have HFR := Aside0.mk (HS7.out.fresh HZ7.out HGL.out)
         have HS8 := Aside0.mk (HS7.out.below hb)
         have K58 := Aside0.mk (blk_below K57.out hb)
         have HC8 := Aside0.mk (below_lo HC6.out hb HZ7.out)
         have HZ8 := Aside0.mk (Nat.le_trans HZ7.out hb.size)
         have HNF := Aside0.mk (Kd.N_F hN)
         clear HS7 K57 HC6 hN hb K26
         cases gk with
         | zero => exact absurd HI0.out (by have := CJ.out; omega)
         | succ mm =>
           have HW9 := Aside0.mk (show wrap64 ((j : Int) + 1) = ((j + 1 : Nat) : Int) from w64s j (by have := CJ.out; have := HG3.out; omega))
           go_wp2_with ((with_reducible refine gate_builtin (b := .append) (xs := #[.tmp 56, .tmp 67]) rfl ?_); at_builtin; refine Kd.N_append_rows k90 (w0 := W8) (m0 + 1) rfl (.tmp 56) (.tmp 67) 22 90 (.agg #[(.bool false), (.slice none 0 0), (.slice none 0 0), (.int .i64 0)]) 64 rfl Try.underlying22 info90 rfl (by decide) (by omega) (.slice A3 rs.length c3) rs fl _ _ _ (fun k => ((m0 + 1 ≤ k ∧ k ≠ gn) ∧ some k ≠ (Value.slice A7 n7 c7).ownBlock) ∧ some k ≠ (Value.slice A39 n6 c39).ownBlock) (fun k => wc.heap.size ≤ k) rfl rfl ?aO ?aR (fun k hk => HFR.out k hk) ?aF ?aB ?aS ?aL ?_; (case aO => exact HS8.out.rr); (case aR => exact HNF.out); (case aB => exact Below.refl _ _); (case aF => exact fun k hk => (HS8.out.fresh HZ8.out (blk_lt K58.out) k hk).1); (case aS => exact HZ8.out); (case aL => have := HLR.out; have := HP4.out; have := HFL.out; have := HFLP.out; omega); intro v68 w9 ho hb hg hat; have HS9 := Aside0.mk (FS.rest HS8.out ho hg); have K59 := Aside0.mk (blk_grown K58.out hg HS8.out.gn_rv); have HC9 := Aside0.mk (below_same HC8.out hb); obtain ⟨A68, c68, e68⟩ := Kd.N_slice ho; subst e68; clear ho hb hg hat HS8 K58 HC8 HNF HFR)
           go_roundg mm
           case measure => omega
           case rel => exact ⟨j + 1, A68, c68, n7, A7, c7, n6, A39, c39, ks2, is2, rs ++ fl, by rw [HW9.out], by rw [List.length_append], ⟨by have := HI0.out; have := CJ.out; omega⟩, ⟨HK2.out, HI2.out, HRS.out⟩, K59, HS9, HC9⟩

/-! ### zu_of: a text by hand -/
-- uses results_two blk_cells3 ascK depth_at keys_at same_ev nestD
-- import Derived.Laws.ResultCell
-- import Derived.StillTailTactics
-- import Derived.WalkLawsBesides
def lof.gT12 : Bool × List (List Nat × List Nat) := (true, [([], []), ([], []), ([1], [1]), ([], []), ([3], [3]), ([2, 4, 2], [2, 4]), ([0, 5, 0], [0]), ([5, 6, 0, 1, 2, 3, 4, 5, 6], [5])])
def lof.gB12 : List Nat := [0, 0, 2, 0, 8, 30, 63, 127]
theorem lof.gtab12 : rtab .any (opsOf Try.f44 12) = lof.gT12 := by kernel_rfl
theorem lof.gbits12 : waitsOk lof.gT12.2 lof.gB12 = true := by kernel_rfl
theorem heap90 : Kd.Heap k90 := Kd.heap_iso _ (Kd.heap_pair Kd.heap_bool (Kd.heap_pair (Kd.heap_slice _ Kd.heap_string) (Kd.heap_pair (Kd.heap_slice _ (Kd.heap_int .i64)) (Kd.heap_int .i64))))
def OfEnd (ns : List S90) (n0 : Nat) (W : World) (e : Ending) (W' : World) : Prop := ∃ x v1 v2 okk, e = .returned (.tuple #[.agg #[.bool (S56.f0 x), v1, v2], .bool okk]) ∧ Kd.FK k56 W' (fun _ => True) x [.bool x.f0, v1, v2] ∧ Below n0 W W' ∧ (okk = true → ∃ d, okT ns d x) ∧ (okk = false → ∀ d t, ¬ okT ns d t) ∧ (x = z56 ∨ ∃ d, goodD d true x ∧ d ≤ 12)
theorem of_zero {ns : List S90} {m0 : Nat} {W w' : World} (hm : m0 = W.heap.size) (hB : Below m0 W w') (hno : ∀ d t, ¬ okT ns d t) :
  OfEnd ns W.heap.size W (.returned (.tuple #[.agg #[.bool false, .slice none 0 0, .slice none 0 0], .bool false])) (((w'.setCell ⟨m0 + 1, 0, none⟩ (.bool false)).setCell ⟨m0 + 1, 1, none⟩ (.slice none 0 0)).setCell ⟨m0 + 1, 2, none⟩ (.slice none 0 0)) := by
 subst hm
 exact ⟨z56, _, _, false, rfl, FK_nilT _ _ _, below_set3 hB (Nat.le_succ _) _ _ _, fun h => (by cases h), fun _ => hno, Or.inl rfl⟩
theorem asc_snoc {ks : List ByteArray} {j : Nat} (h : j < ks.length) (ha : ascK (ks.take j)) (h1 : (ks[j]).size ≤ 16) (h2 : ∀ h0 : 0 < j, Op.bytesLess (ks[j - 1]'(by omega)).toList (ks[j]).toList = true) : ascK (ks.take (j + 1)) := by
 intro i x hi
 rcases Nat.lt_or_ge i j with c | c
 ·have e : (ks.take (j + 1))[i]? = (ks.take j)[i]? := by rw [List.getElem?_take_of_lt (by omega), List.getElem?_take_of_lt c]
  rw [e] at hi
  refine ⟨(ha i x hi).1, fun y h0 hy => (ha i x hi).2 y h0 ?_⟩
  rwa [List.getElem?_take_of_lt (by omega)] at hy ⊢
 ·have hl := (List.getElem?_eq_some_iff.1 hi).1
  rw [List.length_take] at hl
  have : i = j := by omega
  subst this
  rw [List.getElem?_take_of_lt (by omega), List.getElem?_eq_getElem h] at hi
  injection hi with hi
  subst hi
  refine ⟨h1, fun y h0 hy => ?_⟩
  rw [List.getElem?_take_of_lt (by omega), List.getElem?_eq_getElem (by omega)] at hy
  injection hy with hy
  subst hy
  exact h2 h0
set_option maxHeartbeats 16000000 in
set_option maxRecDepth 100000 in
theorem l3Of_any (ns : List S90) (hl : ns.length ≤ 1048576) (hk2 : ∀ i, (rd_T90 ns i).f2.length ≤ 1048576) (A : Option Addr) (c : Nat) (W : World) (hC : Kd.C k90 W A ns.length ns) (hc : ns.length ≤ c) :
  Calls Try.prog 44 #[.agg #[.slice A ns.length c]] W fun e W' => OfEnd ns W.heap.size W e W' := by
 have hF := Kd.C_F heap90 hC
 have hba : Below W.heap.size W (W.alloc (.cells #[.slice A ns.length c] 24)) := below_alloc (Below.refl _ _) _
 have hb0 : Below W.heap.size W ((W.alloc (.cells #[.slice A ns.length c] 24)).alloc (.cells #[.bool false, .slice none 0 0, .slice none 0 0] 56)) := below_alloc hba _
 have K1 := Aside0.mk (blk_alloc (blk_new W (.cells #[.slice A ns.length c] 24)) (.cells #[.bool false, .slice none 0 0, .slice none 0 0] 56))
 have K2 := Aside0.mk (blk_new (W.alloc (.cells #[.slice A ns.length c] 24)) (.cells #[.bool false, .slice none 0 0, .slice none 0 0] 56))
 have HZ := Aside0.mk (show ((W.alloc (.cells #[.slice A ns.length c] 24)).alloc (.cells #[.bool false, .slice none 0 0, .slice none 0 0] 56)).heap.size = W.heap.size + 2 by simp)
 rw [show (W.alloc (.cells #[.slice A ns.length c] 24)).heap.size = W.heap.size + 1 by simp] at K2
 have HF := Aside0.mk (Kd.F_below hF hb0)
 have HB := Aside0.mk hb0
 have HP := Aside0.mk (And.intro hl (And.intro hk2 hc))
 have hu56 := Try.underlying56
 clear hba hb0 hl hk2 hC hF hc
 go_enter Try.func44, Try.ntmps44
 go_upto_region 1 with (fail)
 try simp only [World.size_alloc]
 generalize ((W.alloc (.cells #[.slice A ns.length c] 24)).alloc (.cells #[.bool false, .slice none 0 0, .slice none 0 0] 56)) = W0 at *
 obtain ⟨m0, hm0⟩ : ∃ m0, m0 = W.heap.size := ⟨_, rfl⟩
 rw [← hm0] at K1 K2 HB HZ HF ⊢
 have HN := Aside0.mk hm0
 clear hm0
 obtain ⟨y0, y1, y2, v0, v1, v2⟩ := blk_cells3 K2.out
 have x0 : W0.cell? ⟨m0, 0, none⟩ = some (.slice A ns.length c) := (blk_cell K1.out 0).trans rfl
 by_cases c1 : ns.length < 1
 case pos =>
  have g1 : decide (ns.length < 1) = true := decide_eq_true c1
  have g1b : decide ((ns.length : Int) < 1) = true := decide_eq_true (by omega)
  have hno : ∀ d t, ¬ okT ns d t := fun d t h => by have := h.pos; omega
  clear c1
  go_wp2_with fail
  refine bodyPost_ret (results_two rfl _ _ (m0 + 1) 56 _ (0, 0) _ rfl (blk_set3 K2.out) hu56 rfl (by kernel_rfl)) rfl ?_
  exact of_zero HN.out HB.out hno
 case neg =>
 have g1 : decide (ns.length < 1) = false := decide_eq_false c1
 have g1b : decide ((ns.length : Int) < 1) = false := decide_eq_false (by omega)
 by_cases c2 : 5000 < ns.length
 case pos =>
  have g2 : decide (5000 < ns.length) = true := decide_eq_true c2
  have g2b : decide (5000 < (ns.length : Int)) = true := decide_eq_true (by omega)
  have hno : ∀ d t, ¬ okT ns d t := fun d t h => by have := h.2.2.1; omega
  clear c1 c2
  go_wp2_with fail
  refine bodyPost_ret (results_two rfl _ _ (m0 + 1) 56 _ (0, 0) _ rfl (blk_set3 K2.out) hu56 rfl (by kernel_rfl)) rfl ?_
  exact of_zero HN.out HB.out hno
 case neg =>
 have g2 : decide (5000 < ns.length) = false := decide_eq_false c2
 have g2b : decide (5000 < (ns.length : Int)) = false := decide_eq_false (by omega)
 have HLN := Aside0.mk (show ns.length ≤ 5000 by omega)
 clear c1 c2
 go_wp2_with fail
 refine (l3Nest_any m0 ns HP.out.1 HP.out.2.1 21 0 (by decide) (Int.le_refl 0) 0 A c W0 HF.out (by have := HZ.out; omega)).mono ?_
 clear x0 y0 y1 y2 v0 v1 v2 g1 g1b g2 g2b
 obtain ⟨q, hq⟩ : ∃ q, q = nestD ns 21 0 := ⟨_, rfl⟩
 have HQ := Aside0.mk hq
 rw [← hq]
 rintro e W5 ⟨p1, p2, rfl, hK, hb⟩
 clear hq
 obtain ⟨x, after, ok0⟩ := q
 simp only at hK
 obtain ⟨A5, c5, A6, c6, he, _, _, _, _⟩ := k56_openF hK
 simp only [List.cons.injEq, and_true, true_and] at he
 obtain ⟨rfl, rfl⟩ := he
 replace K1 := Aside0.mk (blk_below K1.out hb)
 replace K2 := Aside0.mk (blk_below K2.out hb)
 replace HF := Aside0.mk (Kd.F_below HF.out hb)
 replace HB := Aside0.mk (below_lo HB.out hb (by have := HZ.out; omega))
 have HZ5 := Aside0.mk (show m0 + 2 ≤ W5.heap.size by rw [← HZ.out]; exact hb.size)
 have HK := Aside0.mk (Foot.bound hK)
 clear hb hK
 go_upto_region 4 with (fail)
 have hb5 : Below W5.heap.size W5 (W5.alloc (.cells #[.bool x.f0, .slice A5 x.f1.length c5, .slice A6 x.f2.length c6] 56)) := below_alloc (Below.refl _ _) _
 have K4 := Aside0.mk (blk_new W5 (.cells #[.bool x.f0, .slice A5 x.f1.length c5, .slice A6 x.f2.length c6] 56))
 replace K1 := Aside0.mk (blk_below K1.out hb5)
 replace K2 := Aside0.mk (blk_below K2.out hb5)
 replace HF := Aside0.mk (Kd.F_below HF.out hb5)
 replace HB := Aside0.mk (below_lo HB.out hb5 (by have := HZ5.out; omega))
 have HK5 := Aside0.mk (Kd.FK_mono (ok' := fun k => (k < m0 ∨ m0 + 2 ≤ k) ∧ k < W5.heap.size) (Kd.FK_below HK.out hb5) (fun k hk => ⟨by have := HZ.out; have := hk.1; omega, hk.2⟩))
 clear HZ
 obtain ⟨g4, hg4⟩ : ∃ g4, g4 = W5.heap.size := ⟨_, rfl⟩
 have HZ6 := Aside0.mk (show (W5.alloc (.cells #[.bool x.f0, .slice A5 x.f1.length c5, .slice A6 x.f2.length c6] 56)).heap.size = g4 + 1 by rw [hg4]; simp)
 rw [← hg4] at K4 HK5 HZ5 ⊢
 clear hb5 hg4 HK
 generalize (W5.alloc (.cells #[.bool x.f0, .slice A5 x.f1.length c5, .slice A6 x.f2.length c6] 56)) = W6 at *
 obtain ⟨y0, y1, y2, v0, v1, v2⟩ := blk_cells3 K2.out
 have x0 : W6.cell? ⟨m0, 0, none⟩ = some (.slice A ns.length c) := (blk_cell K1.out 0).trans rfl
 obtain ⟨z0, z1, z2, u0, u1, u2⟩ := blk_cells3 K4.out
 rcases ok0 with _ | _
 case false =>
  have hno : ∀ d t, ¬ okT ns d t := fun d t h => by
   have h1 := h.nest
   rw [← HQ.out] at h1
   simp at h1
  go_wp2_with fail
  refine bodyPost_ret (results_two rfl _ _ (m0 + 1) 56 _ (0, 0) _ rfl (blk_set3 K2.out) hu56 rfl (by kernel_rfl)) rfl ?_
  exact of_zero HN.out HB.out hno
 case true =>
 by_cases c3 : after = (ns.length : Int)
 case neg =>
  have g3 : (after != (ns.length : Int)) = true := by simp [c3]
  have hno : ∀ d t, ¬ okT ns d t := fun d t h => by
   have h1 := h.nest
   rw [← HQ.out] at h1
   simp only [Prod.mk.injEq] at h1
   exact c3 h1.2.1
  go_wp2_with fail
  refine bodyPost_ret (results_two rfl _ _ (m0 + 1) 56 _ (0, 0) _ rfl (blk_set3 K2.out) hu56 rfl (by kernel_rfl)) rfl ?_
  exact of_zero HN.out HB.out hno
 case pos =>
 subst c3
 have g3 : ((ns.length : Int) != (ns.length : Int)) = false := by simp
 have hsh : shapeN 21 x := by
  have h1 := shape_nest ns 21 0 (by rw [← HQ.out])
  rw [← HQ.out] at h1
  exact h1
 have HDP := Aside0.mk (depth_at 21 true x 168 hsh (Nat.le_refl _) (Nat.le_refl _))
 obtain ⟨_, _, _, _, he, l1, F1, l2, F2⟩ := k56_openF HK5.out
 simp only [List.cons.injEq, Value.slice.injEq, and_true, true_and] at he
 obtain ⟨⟨rfl, rfl⟩, rfl, rfl⟩ := he
 have HF1 := Aside0.mk F1
 have HF2 := Aside0.mk F2
 have HL := Aside0.mk (And.intro l1 l2)
 clear hsh F1 F2 l1 l2
 obtain ⟨dd, hdd⟩ : ∃ dd, dd = depM 21 true x := ⟨_, rfl⟩
 rw [← hdd] at HDP
 have HDD := Aside0.mk hdd
 clear hdd
 go_wp2_with fail
 refine (spec_l3Depth.calls 168 _ _ _ _ _ _ _ _ _ _ (Kd.F_now HF1.out) HL.out.1 (Kd.F_now HF2.out) HL.out.2 HDP.out).mono ?_
 rintro e W7 ⟨rfl, hb⟩
 replace K1 := Aside0.mk (blk_below K1.out hb)
 replace K2 := Aside0.mk (blk_below K2.out hb)
 replace K4 := Aside0.mk (blk_below K4.out hb)
 replace HF := Aside0.mk (Kd.F_below HF.out hb)
 replace HK5 := Aside0.mk (Kd.FK_below HK5.out hb)
 replace HF1 := Aside0.mk (Kd.F_below HF1.out hb)
 replace HF2 := Aside0.mk (Kd.F_below HF2.out hb)
 replace HB := Aside0.mk (below_lo HB.out hb (by have := HZ6.out; have := HZ5.out; omega))
 replace HZ6 := Aside0.mk (show g4 + 1 ≤ W7.heap.size by rw [← HZ6.out]; exact hb.size)
 clear hb x0 y0 y1 y2 v0 v1 v2 z0 z1 z2 u0 u1 u2 g3
 obtain ⟨y0, y1, y2, v0, v1, v2⟩ := blk_cells3 K2.out
 have x0 : W7.cell? ⟨m0, 0, none⟩ = some (.slice A ns.length c) := (blk_cell K1.out 0).trans rfl
 obtain ⟨z0, z1, z2, u0, u1, u2⟩ := blk_cells3 K4.out
 by_cases c4 : dd < 0
 case pos =>
  have g4b : decide (dd < 0) = true := decide_eq_true c4
  have hno : ∀ d t, ¬ okT ns d t := fun d t h => by
   have h1 := h.nest
   rw [← HQ.out] at h1
   simp only [Prod.mk.injEq, and_true] at h1
   have h2 := depM_of d 21 true t h.1 (by have := h.depth; omega)
   rw [← h1, ← HDD.out] at h2
   omega
  go_wp2_with fail
  refine bodyPost_ret (results_two rfl _ _ (m0 + 1) 56 _ (0, 0) _ rfl (blk_set3 K2.out) hu56 rfl (by kernel_rfl)) rfl ?_
  exact of_zero HN.out HB.out hno
 case neg =>
 have g4b : decide (dd < 0) = false := decide_eq_false c4
 have hgd := okT_of_nest HQ.out.symm (by rw [← HDD.out]; omega) HLN.out
 rw [← HDD.out] at hgd
 obtain ⟨d, hd⟩ : ∃ d, d = dd.toNat := ⟨_, rfl⟩
 rw [← hd] at hgd
 have HG := Aside0.mk hgd
 have HD := Aside0.mk hd
 have HDN := Aside0.mk (show dd = (d : Int) by omega)
 have HKE := Aside0.mk (keys_at d true x (6 * d + 1) hgd.1 (by omega) (Nat.le_refl _))
 clear hgd hd c4 HDP
 go_wp2_with fail
 refine (spec_l3Keys.calls (6 * d + 1) _ _ _ _ _ _ _ _ _ (Kd.F_now HF1.out) HL.out.1 (Kd.F_now HF2.out) HL.out.2 HKE.out).mono ?_
 clear x0 y0 y1 y2 v0 v1 v2 z0 z1 z2 u0 u1 u2 g4b HKE
 rintro e W8 ⟨v7, rfl, hR, hb⟩
 obtain ⟨Ks, hKs⟩ : ∃ Ks, Ks = keysD d x := ⟨_, rfl⟩
 rw [← hKs] at hR
 obtain ⟨A7, c7, rfl⟩ := Kd.R_slice hR
 have HKS := Aside0.mk hKs
 have HR := Aside0.mk (Kd.R_reads' hR).2.2
 replace K1 := Aside0.mk (blk_below K1.out hb)
 replace K2 := Aside0.mk (blk_below K2.out hb)
 replace K4 := Aside0.mk (blk_below K4.out hb)
 replace HF := Aside0.mk (Kd.F_below HF.out hb)
 replace HK5 := Aside0.mk (Kd.FK_below HK5.out hb)
 replace HB := Aside0.mk (below_lo HB.out hb (by have := HZ6.out; have := HZ5.out; omega))
 replace HZ6 := Aside0.mk (show g4 + 1 ≤ W8.heap.size from Nat.le_trans HZ6.out hb.size)
 have HKL := Aside0.mk (show Ks.length ≤ 9223372036854775807 from (Kd.R_reads' hR).2.2.2.1)
 clear hb hR hKs HF1 HF2
 go_wp2_with fail
 go_loopg [8] Ks.length (fun kq v8 w' => ∃ j : Nat, v8 = .int .i64 (j : Int) ∧ Aside0 (j ≤ Ks.length ∧ Ks.length ≤ kq + j) ∧ Aside0 (ascK (Ks.take j)) ∧ Aside0 (Below W8.heap.size W8 w'))
 case atStart => exact ⟨0, rfl, ⟨by omega, by omega⟩, ⟨fun j x h => by simp at h⟩, ⟨Below.refl _ _⟩⟩
 case round =>
  obtain ⟨j, rfl, HI, HA, HC⟩ := hrel
  replace K1 := Aside0.mk (blk_below K1.out HC.out)
  replace K2 := Aside0.mk (blk_below K2.out HC.out)
  replace K4 := Aside0.mk (blk_below K4.out HC.out)
  replace HF := Aside0.mk (Kd.F_below HF.out HC.out)
  replace HK5 := Aside0.mk (Kd.FK_below HK5.out HC.out)
  replace HR := Aside0.mk (Kd.C_below HR.out HC.out)
  replace HB := Aside0.mk (below_lo HB.out HC.out (by have := HZ6.out; have := HZ5.out; omega))
  replace HZ6 := Aside0.mk (Nat.le_trans HZ6.out (below_sz HC.out))
  by_cases cj : j < Ks.length
  case neg =>
   have cjb : decide (j < Ks.length) = false := decide_eq_false cj
   have hj : j = Ks.length := by have := HI.out; omega
   have HAS := Aside0.mk (show ascK Ks by have := HA.out; rwa [hj, List.take_length] at this)
   clear hj cj
   go_wp2_with fail
   refine start_ (n := 8) (S := fun w' => w'.heap[m0]? = some (.cells #[.slice A ns.length c] 24 (0, 0)) ∧ w'.heap[g4]? = some (.cells #[.bool x.f0, .slice A5 x.f1.length c5, .slice A6 x.f2.length c6] 56 (0, 0))) (ds := []) #[false, false, false, false, false, false, false, false] (by kernel_rfl) rfl rfl ⟨K1.out, K4.out⟩ (fun hHeld => ?_); refine with_tabW lof.gtab12 lof.gbits12 (fun HT_ HW_ => ?_)
   have hbd : Below wr.heap.size wr wr.drew := below_drew (Below.refl _ _)
   replace K1 := Aside0.mk (blk_below K1.out hbd)
   replace K2 := Aside0.mk (blk_below K2.out hbd)
   replace K4 := Aside0.mk (blk_below K4.out hbd)
   replace HF := Aside0.mk (Kd.F_below HF.out hbd)
   replace HK5 := Aside0.mk (Kd.FK_below HK5.out hbd)
   replace HB := Aside0.mk (below_lo HB.out hbd (by have := HZ6.out; have := HZ5.out; omega))
   replace HZ6 := Aside0.mk (Nat.le_trans HZ6.out (below_sz hbd))
   clear hbd
   generalize wr.drew = W9 at *
   refine take_ (i := 0) (N := some 73) (v := ?_) (a' := ?_) #[true, false, false, false, false, false, false, false] rfl rfl (take_ofW HT_.out HW_.out (by kernel_rfl)) (fun _ _ _ h => h) (Or.inl ⟨by rfl, ?_⟩) hHeld ?_ ?_
   rotate_left
   ·rintro w' ⟨s0, s1⟩
    obtain ⟨z0, z1, z2, u0, u1, u2⟩ := blk_cells3 s1
    go_simp
    with_reducible rfl
   rotate_left
   ·simp only [Act.put, List.setIfInBounds_toArray, List.set_cons_zero, List.set_cons_succ, i64_w, i32_w]
    rfl
   refine take_ (i := 1) (N := some 74) (v := ?_) (a' := ?_) #[true, true, false, false, false, false, false, false] rfl rfl (take_ofW HT_.out HW_.out (by kernel_rfl)) (fun _ _ _ h => h) (Or.inl ⟨by rfl, ?_⟩) hHeld ?_ ?_
   rotate_left
   ·rintro w' ⟨s0, s1⟩
    obtain ⟨z0, z1, z2, u0, u1, u2⟩ := blk_cells3 s1
    go_simp
    with_reducible rfl
   rotate_left
   ·simp only [Act.put, List.setIfInBounds_toArray, List.set_cons_zero, List.set_cons_succ, i64_w, i32_w]
    rfl
   refine pure_ (i := 3) (N := some 76) (v := ?_) (a' := ?_) #[true, true, false, true, false, false, false, false] rfl rfl (any_of HT_.out (by kernel_rfl)) (fun _ _ _ h => h) (Or.inl ⟨by rfl, ?_⟩) ?_ ?_
   rotate_left
   ·intro w'
    go_simp
    with_reducible rfl
   rotate_left
   ·simp only [Act.put, List.setIfInBounds_toArray, List.set_cons_zero, List.set_cons_succ, i64_w, i32_w]
    rfl
   refine take_ (i := 4) (N := some 77) (v := ?_) (a' := ?_) #[true, true, false, true, true, false, false, false] rfl rfl (take_ofW HT_.out HW_.out (by kernel_rfl)) (fun _ _ _ h => h) (Or.inl ⟨by rfl, ?_⟩) hHeld ?_ ?_
   rotate_left
   ·rintro w' ⟨s0, s1⟩
    have x0 : w'.cell? ⟨m0, 0, none⟩ = some (.slice A ns.length c) := (blk_cell s0 0).trans rfl
    go_simp
    with_reducible rfl
   rotate_left
   ·simp only [Act.put, List.setIfInBounds_toArray, List.set_cons_zero, List.set_cons_succ, i64_w, i32_w]
    rfl
   refine one_ (i := 2) (N := some 75) #[true, true, true, true, true, false, false, false] rfl rfl (one_of HT_.out (by kernel_rfl)) (by decide) (fun K hK => ?_)
   refine goes_ Try.func37 (by kernel_rfl) rfl #[.agg #[.bool x.f0, .slice A5 x.f1.length c5, .slice A6 x.f2.length c6], .int .i64 0] (by rfl) rfl rfl (by (try simp only [List.map_toArray, List.map_cons, List.map_nil]); first | done | rfl) ?_
   refine (l3Flat_any g4 d true x 0 A5 c5 A6 c6 W9 HG.out.1 HG.out.2 (4 ^ (d + 2)) rfl (Int.le_refl 0) (by have h1 := pow4 (d + 2) 14 (by have := HG.out.2; omega); omega) (Kd.FK_mono HK5.out (fun k hk => hk.2)) (by have := HZ6.out; omega)).mono ?_
   rintro e W10 ⟨v75, rfl, hN, hb⟩
   refine ⟨_, rfl, ?_⟩
   have HSM := Aside0.mk (flatD_small (0 : Int) HG.out.1)
   have HFE := Aside0.mk (show ∀ h : flatD d x 0 = ns, okT ns d x from fun h => ⟨HG.out.1, h, HLN.out, by rw [← HKS.out]; exact HAS.out⟩)
   have HFN := Aside0.mk (show ∀ d2 t2, okT ns d2 t2 → flatD d x 0 = ns from fun d2 t2 h => by
  have h1 := h.nest
  rw [← HQ.out] at h1
  simp only [Prod.mk.injEq, and_true] at h1
  subst h1
  have h2 := depM_of d2 21 true x h.1 (by have := h.depth; omega)
  rw [← HDD.out, HDN.out] at h2
  have h3 : d = d2 := by omega
  subst h3
  exact h.2.1)
   obtain ⟨fl, hfl⟩ : ∃ fl, fl = flatD d x 0 := ⟨_, rfl⟩
   rw [← hfl] at hN HSM HFE HFN
   clear hfl
   obtain ⟨A75, c75, rfl⟩ := Kd.N_slice hN
   have HNR := Aside0.mk (Kd.N_reads' hN)
   replace K1 := Aside0.mk (blk_below K1.out hb)
   replace K2 := Aside0.mk (blk_below K2.out hb)
   replace K4 := Aside0.mk (blk_below K4.out hb)
   replace HF := Aside0.mk (Kd.F_below HF.out hb)
   replace HK5 := Aside0.mk (Kd.FK_below HK5.out hb)
   replace HB := Aside0.mk (below_lo HB.out hb (by have := HZ6.out; have := HZ5.out; omega))
   replace HZ6 := Aside0.mk (Nat.le_trans HZ6.out (below_sz hb))
   clear hb hN
   refine hK.out _ _ ⟨K1.out, K4.out⟩ (fun hHeld => ?_)
   clear hK K
   refine norm_ (a' := ?_) ?_ ?_
   rotate_left
   ·show Act.put _ (some 75) _ = _
    simp only [Act.put, List.setIfInBounds_toArray, List.set_cons_zero, List.set_cons_succ, i64_w, i32_w]
    rfl
   refine one_ (i := 5) (N := some 78) #[true, true, true, true, true, true, false, false] rfl rfl (one_of HT_.out (by kernel_rfl)) (by decide) (fun K hK => ?_)
   refine goes_ Try.func68 (by kernel_rfl) rfl #[.slice A75 fl.length c75, .slice A ns.length c] (by rfl) rfl rfl (by (try simp only [List.map_toArray, List.map_cons, List.map_nil]); first | done | rfl) ?_
   obtain ⟨ks_, hks_⟩ := (same_ev (x0 := fl) (x1 := ns) HNR.out.2.2.2.1 (fun n hn => by have := HSM.out n hn; omega)).rounds
   refine (spec_l3SameNodes.calls ks_ _ _ _ _ _ _ _ _ HNR.out.2.2 HNR.out.2.1 (Kd.F_now HF.out) HP.out.2.2 hks_).mono ?_
   rintro e W11 ⟨rfl, hdr⟩
   refine ⟨_, rfl, ?_⟩
   have hb := hdr.below
   replace K1 := Aside0.mk (blk_below K1.out hb)
   replace K2 := Aside0.mk (blk_below K2.out hb)
   replace K4 := Aside0.mk (blk_below K4.out hb)
   replace HF := Aside0.mk (Kd.F_below HF.out hb)
   replace HK5 := Aside0.mk (Kd.FK_below HK5.out hb)
   replace HB := Aside0.mk (below_lo HB.out hb (by have := HZ6.out; have := HZ5.out; omega))
   replace HZ6 := Aside0.mk (Nat.le_trans HZ6.out (below_sz hb))
   clear hb hdr hks_
   refine hK.out _ _ ⟨K1.out, K4.out⟩ (fun hHeld => ?_)
   clear hK K
   refine norm_ (a' := ?_) ?_ ?_
   rotate_left
   ·show Act.put _ (some 78) _ = _
    simp only [Act.put, List.setIfInBounds_toArray, List.set_cons_zero, List.set_cons_succ, i64_w, i32_w]
    rfl
   refine one_ (i := 6) (N := none) #[true, true, true, true, true, true, true, false] rfl rfl (one_of HT_.out (by kernel_rfl)) (by decide) (fun K hK => ?_)
   obtain ⟨y0, y1, y2, v0, v1, v2⟩ := blk_cells3 K2.out
   have yl := blk_lt K2.out
   refine skip_ (w1 := ?_) (by rfl) rfl ?_ ?_
   rotate_left
   ·go_simp
    rfl
   refine hK.out _ _ ⟨(set3_other _ _ _ (by omega)).trans K1.out, (set3_other _ _ _ (by have := HZ5.out; omega)).trans K4.out⟩ (fun hHeld => ?_)
   clear hK K
   refine pure_ (i := 7) (N := some 3) (v := ?_) (a' := ?_) #[true, true, true, true, true, true, true, true] rfl rfl (any_of HT_.out (by kernel_rfl)) (fun _ _ _ h => h) (Or.inl ⟨by rfl, ?_⟩) ?_ ?_
   rotate_left
   ·intro w'
    go_simp
    with_reducible rfl
   rotate_left
   ·simp only [Act.put, List.setIfInBounds_toArray, List.set_cons_zero, List.set_cons_succ, i64_w, i32_w]
    rfl
   refine done_ (done_of HT_.out (by kernel_rfl)) ?_
   go_wp2_with fail
   refine bodyPost_ret (results_two rfl _ _ (m0 + 1) 56 _ (0, 0) _ rfl (blk_set3 K2.out) hu56 rfl (by kernel_rfl)) rfl ?_
   refine ⟨x, .slice A5 x.f1.length c5, .slice A6 x.f2.length c6, iteB (fl = ns) true, rfl, ?_, ?_, fun h => ?_, fun h d2 t2 h2 => ?_, Or.inr ⟨d, HG.out⟩⟩
   ·exact Kd.FK_mono (Kd.FK_step HK5.out (fun k hk _ => set3_other _ _ _ (by omega))) (fun _ _ => trivial)
   ·rw [← HN.out]
    exact below_set3 HB.out (Nat.le_succ _) _ _ _
   ·by_cases hf : fl = ns
    ·exact ⟨d, HFE.out hf⟩
    ·rw [iteB_neg hf] at h; cases h
   ·have hf := HFN.out d2 t2 h2
    rw [iteB_pos hf] at h
    cases h
  case pos =>
   have cjb : decide (j < Ks.length) = true := decide_eq_true cj
   obtain ⟨mm, rfl⟩ : ∃ mm, gk = mm + 1 := ⟨gk - 1, by have := HI.out; omega⟩
   obtain ⟨ad, rfl, hx⟩ := Kd.at_string HR.out (j : Int) (by omega) (by omega)
   rw [rdb_at _ _ cj] at hx
   simp only [Int.toNat_natCast] at hx
   obtain ⟨y0, y1, y2, v0, v1, v2⟩ := blk_cells3 K2.out
   have CJ := Aside0.mk cj
   have HW9 := Aside0.mk (w64m j (by have := HKL.out; omega))
   have p5 : (0 ≤ (j : Int)) = True := eq_true (by omega)
   have q5 : ((j : Int) < (Ks.length : Int)) = True := eq_true (by omega)
   have q6 : (j < Ks.length) = True := eq_true cj
   obtain ⟨key, hkey⟩ : ∃ key, key = Ks[j]'cj := ⟨_, rfl⟩
   rw [← hkey] at hx
   have HKY := Aside0.mk hkey
   clear hkey
   have bad : ¬ (key.size ≤ 16 ∧ ∀ h0 : 0 < j, Op.bytesLess (Ks[j - 1]'(by have := CJ.out; omega)).toList key.toList = true) → ∀ d t, ¬ okT ns d t := fun hb d' t h => by
    have h1 := h.nest
    rw [← HQ.out] at h1
    simp only [Prod.mk.injEq, and_true] at h1
    subst h1
    have h2 := depM_of d' 21 true x h.1 (by have := h.depth; omega)
    rw [← HDD.out, HDN.out] at h2
    have h3 : d = d' := by omega
    subst h3
    have h4 := h.2.2.2
    rw [← HKS.out] at h4
    apply hb
    have h5 := h4 j key (by rw [HKY.out]; exact List.getElem?_eq_getElem CJ.out)
    exact ⟨h5.1, fun h0 => h5.2 _ h0 (List.getElem?_eq_getElem (by have := CJ.out; omega))⟩
   have HBAD := Aside0.mk bad
   clear bad
   by_cases c1 : 16 < key.size
   case pos =>
    have d1 : decide (16 < (key.size : Int)) = true := decide_eq_true (by omega)
    have d1b : decide (16 < key.size) = true := decide_eq_true c1
    have hno := HBAD.out (fun h => by omega)
    go_wp2_with fail
    go_quiet (fail)
    go_wp2_with fail
    refine bodyPost_ret (results_two rfl _ _ (m0 + 1) 56 _ (0, 0) _ rfl (blk_set3 (blk_drewN K2.out _)) hu56 rfl (by kernel_rfl)) rfl ?_
    exact of_zero HN.out (pw_below_drewN HB.out _) hno
   case neg =>
    have d1 : decide (16 < (key.size : Int)) = false := decide_eq_false (by omega)
    have d1b : decide (16 < key.size) = false := decide_eq_false c1
    by_cases c0 : 0 < j
    case neg =>
     have d0 : decide (0 < (j : Int)) = false := decide_eq_false (by omega)
     have d0b : decide (0 < j) = false := decide_eq_false c0
     go_wp2_with fail
     go_quiet (fail)
     go_wp2_with fail
     go_roundg mm
     case measure => omega
     case rel => exact ⟨j + 1, by first | (rw [HW9.out]; done) | (simp; done), ⟨by have := HI.out; have := CJ.out; omega⟩, ⟨asc_snoc CJ.out HA.out (by rw [← HKY.out]; omega) (fun h0 => absurd h0 c0)⟩, ⟨pw_below_drewN HC.out _⟩⟩
    case pos =>
     have d0 : decide (0 < (j : Int)) = true := decide_eq_true (by omega)
     have d0b : decide (0 < j) = true := decide_eq_true c0
     obtain ⟨ad', e2, hx0⟩ := Kd.at_string HR.out ((j - 1 : Nat) : Int) (by omega) (by omega)
     cases e2
     rw [rdb_at _ _ (by omega : j - 1 < Ks.length)] at hx0
     simp only [Int.toNat_natCast] at hx0
     have s1 : IntKind.i64.wrap ((j : Int) - 1) = (j : Int) - 1 := by rw [i64_w]; have := HKL.out; unfold wrap64; omega
     have s2 : 1 ≤ (j : Int) := by omega
     have s2b : 1 ≤ j := by omega
     have s3 : ((j : Int) - 1).toNat = j - 1 := by omega
     have s4 : (j : Int) - 1 < (Ks.length : Int) := by omega
     cases hb : Op.bytesLess (Ks[j - 1]'(by omega)).toList key.toList
     case false =>
      have hno := HBAD.out (fun h => by have := h.2 c0; rw [hb] at this; cases this)
      go_wp2_with fail
      go_quiet (fail)
      go_wp2_with fail
      refine bodyPost_ret (results_two rfl _ _ (m0 + 1) 56 _ (0, 0) _ rfl (blk_set3 (blk_drewN K2.out _)) hu56 rfl (by kernel_rfl)) rfl ?_
      exact of_zero HN.out (pw_below_drewN HB.out _) hno
     case true =>
      go_wp2_with fail
      go_quiet (fail)
      go_wp2_with fail
      go_roundg mm
      case measure => omega
      case rel => exact ⟨j + 1, by first | (rw [HW9.out]; done) | (simp; done), ⟨by have := HI.out; have := CJ.out; omega⟩, ⟨asc_snoc CJ.out HA.out (by rw [← HKY.out]; omega) (fun h0 => by rw [← HKY.out]; exact hb)⟩, ⟨pw_below_drewN HC.out _⟩⟩

/-! ### zv_meth: a text by hand -/
-- the methods of impl's nodes, called through the interface
theorem run_invoke {P : Program} {oi : Oper} {a : Act} {w : World} {recv : Operand} {name : String} {t : TypeId} {v : Value} {f : FuncId} {args : Array Value} (hop : oi.op = .call { callee := .invoke recv name, args := #[], argTypes := #[] }) (hv : a.eval recv = .iface t v)
  (hm : (callMethod (.iface t v) name #[]).run P w = .ok (.enter f args) w) : (execOp a.eval oi).run P w = .ok (.enter f args) w := by
 have hm2 : (invoke (.fn (.method name) #[]) #[.iface t v]).run P w = .ok (.enter f args) w := by
  simpa [invoke] using hm
 unfold execOp
 simp [hop, resolve, hv, hm2]
theorem goesI_ {P : Program} {ops : Array Oper} {Q : Exit → Act → World → Prop} {rest : List Oper} {oi : Oper} {a : Act} {w : World} (N : Option Tmp) (hd : oi.dst = N) (hg : oi.guard = none) (f : FuncId) (args : Array Value)
  (hrun : (execOp a.eval oi).run P w = .ok (.enter f args) w) (h : Calls P f args w fun e w' => ∃ v, e = .returned v ∧ wpList P ops Q rest (a.put N v) w') : wpList P ops Q (oi :: rest) a w := by
 refine wpList_plain hg fun K hK => ?_
 unfold Oper.wp
 rw [hrun, Oper.upon_enter]
 refine h.mono fun e w'' hh => ?_
 obtain ⟨v, rfl, hk⟩ := hh
 subst hd
 exact hK _ _ hk
theorem m_least0 (p : Value) (w : World) : (callMethod (.iface 58 p) "loop.example/s01136/impl.least" #[]).run Try.prog w = .ok (.enter 125 #[p]) w := by kernel_rfl
theorem m_leastS (p : Value) (w : World) : (callMethod (.iface 79 p) "loop.example/s01136/impl.least" #[]).run Try.prog w = .ok (.enter 126 #[p]) w := by kernel_rfl
theorem run_load85 {w : World} {b t : Nat} {n : Int} {v : Value} (h : w.heap[b]? = some (.cells #[.int .i64 n, v] t (0, 0))) : (loadVar 85 ⟨b, 0, none⟩).run Try.prog w = .ok (.agg #[.int .i64 n]) w := by
 have x0 : w.cell? ⟨b, 0, none⟩ = some (.int .i64 n) := (blk_cell h 0).trans rfl
 have hu := Try.underlying85
 go_simp
theorem meth_keys {tp ts : Nat} {fs : Array Field} (hm : ((Try.prog.info? tp).bind fun I => (I.methods.find? (·.name == "loop.example/s01136/impl.keys")).map fun m => (m.path.toList, m.func)) = some ([⟨ts, 0, true⟩], some (124, false))) (hu : Try.prog.underlying ts = some (.struct fs)) (hf : (fs[0]?).map (fun f => (f.type, f.offset)) = some (85, 0)) (b : Nat) (w : World) {n : Int} (hl : (loadVar 85 ⟨b, 0, none⟩).run Try.prog w = .ok (.agg #[.int .i64 n]) w) : (method (Try.prog.types.size + Made.depth) tp (.pointer (some ⟨b, 0, none⟩)) "loop.example/s01136/impl.keys").run Try.prog w = .ok ((124 : FuncId), .agg #[.int .i64 n]) w := by
 obtain ⟨N, hN⟩ : ∃ N, Try.prog.types.size + Made.depth = N + 1 := ⟨Try.prog.types.size + Made.depth - 1, by kernel_rfl⟩
 rw [hN]
 rw [Option.bind_eq_some_iff] at hm
 obtain ⟨I, hI, hm⟩ := hm
 rw [Option.map_eq_some_iff] at hm
 obtain ⟨m, hfind, hm⟩ := hm
 simp only [Prod.mk.injEq] at hm
 rw [Option.map_eq_some_iff] at hf
 obtain ⟨f, hf, hff⟩ := hf
 simp only [Prod.mk.injEq] at hff
 have hu85 := Try.underlying85
 have hsz : (Try.prog.info? 85).map (·.size) = some 1 := by kernel_rfl
 rw [Option.map_eq_some_iff] at hsz
 obtain ⟨J, hJ, hJs⟩ := hsz
 have hti : (typeInfo tp).run Try.prog w = .ok I w := by simp [typeInfo, Sem.run_bind, run_program, hI]
 have htj : (typeInfo 85).run Try.prog w = .ok J w := by simp [typeInfo, Sem.run_bind, run_program, hJ]
 simp only [method, Sem.run_bind, hti, Result.andThen_ok, hfind, hm.1, hm.2, follow, run_underlying hu, hf]
 simp [follow, asAddr, fieldPlace, receiverAt, Place.get, Sem.run_bind, run_underlying hu85, hff.1, hff.2, sizeOf, htj, hJs, Addr.add, hl, hm.1, hm.2]
theorem m_keys0 {w : World} {b : Nat} {n : Int} {v : Value} (h : w.heap[b]? = some (.cells #[.int .i64 n, v] 93 (0, 0))) : (callMethod (ifP 58 b) "loop.example/s01136/impl.keys" #[]).run Try.prog w = .ok (.enter 124 #[.agg #[.int .i64 n]]) w := by
 have e := meth_keys (tp := 58) (ts := 93) (by kernel_rfl) Try.underlying93 rfl b w (run_load85 h)
 unfold ifP callMethod
 simp only [Sem.run_bind, run_program, Result.andThen_ok, e]
 have e2 : (callFunc 124 (#[Value.agg #[.int .i64 n]] ++ #[])).run Try.prog w = .ok (.enter 124 #[.agg #[.int .i64 n]]) w := by kernel_rfl
 exact e2
theorem m_keysS {w : World} {b : Nat} {n : Int} {v : Value} (h : w.heap[b]? = some (.cells #[.int .i64 n, v] 87 (0, 0))) : (callMethod (ifP 79 b) "loop.example/s01136/impl.keys" #[]).run Try.prog w = .ok (.enter 124 #[.agg #[.int .i64 n]]) w := by
 have e := meth_keys (tp := 79) (ts := 87) (by kernel_rfl) Try.underlying87 rfl b w (run_load85 h)
 unfold ifP callMethod
 simp only [Sem.run_bind, run_program, Result.andThen_ok, e]
 have e2 : (callFunc 124 (#[Value.agg #[.int .i64 n]] ++ #[])).run Try.prog w = .ok (.enter 124 #[.agg #[.int .i64 n]]) w := by kernel_rfl
 exact e2

/-! ### zw_impl1: a text by hand -/
set_option maxHeartbeats 2000000 in
theorem keys_any (n : Int) (W : World) : Calls Try.prog 124 #[.agg #[.int .i64 n]] W fun e W' => e = .returned (.int .i64 n) ∧ Below W.heap.size W W' := by
 have hba : Below W.heap.size W (W.alloc (.cells #[.int .i64 n] 85)) := below_alloc (Below.refl _ _) _
 have K1 := blk_new W (.cells #[.int .i64 n] 85)
 have x0 : (W.alloc (.cells #[.int .i64 n] 85)).cell? ⟨W.heap.size, 0, none⟩ = some (.int .i64 n) := (blk_cell K1 0).trans rfl
 have HB := Aside0.mk hba
 have hu := Try.underlying85
 clear hba K1
 go_enter Try.func124, Try.ntmps124
 go_wp2_with fail
 go_ret
 exact ⟨rfl, HB.out⟩
set_option maxHeartbeats 2000000 in
theorem newLeaf_any (A : Option Addr) (n c : Nat) (W : World) : Calls Try.prog 39 #[.slice A n c] W fun e W' => ∃ b, e = .returned (.pointer (some ⟨b, 0, none⟩)) ∧ W.heap.size ≤ b ∧ W'.heap[b]? = some (.cells #[.int .i64 (n : Int), .slice A n c] 93 (0, 0)) ∧ Below W.heap.size W W' := by
 have hu := Try.underlying85
 have hu2 := Try.underlying93
 go_enter Try.func39, Try.ntmps39
 go_wp2_with fail
 go_ret
 exact ⟨W.heap.size, rfl, Nat.le_refl _, blk_new _ _, below_alloc (Below.refl _ _) _⟩
set_option maxHeartbeats 2000000 in
theorem least0_any {W : World} {b : Nat} {A : Option Addr} {c : Nat} {t : S56} (hl : LeafAt W b A c t) (hC : Kd.C Kd.string W A t.f1.length t.f1) : Calls Try.prog 125 #[.pointer (some ⟨b, 0, none⟩)] W fun e W' => e = .returned (.string (headK 0 t)) ∧ W' = W := by
 have x1 : W.cell? ⟨b, 1, none⟩ = some (.slice A t.f1.length c) := (blk_cell hl.2.2.1 1).trans rfl
 have hu2 := Try.underlying93
 have HC := Aside0.mk hC
 clear hl hC
 by_cases c0 : t.f1.length = 0
 ·have hk : headK 0 t = ByteArray.empty := by
   unfold headK keysD
   rw [List.length_eq_zero_iff.1 c0]
   rfl
  rw [hk]
  have cb : ((t.f1.length : Int) == 0) = true := by simp [c0]
  have cb2 : (t.f1.length == 0) = true := by simp [c0]
  go_enter Try.func125, Try.ntmps125
  go_wp2_with fail
  go_ret
  exact ⟨rfl, rfl⟩
 ·have cb : ((t.f1.length : Int) == 0) = false := by rw [beq_eq_false_iff_ne]; omega
  have cb2 : (t.f1.length == 0) = false := by rw [beq_eq_false_iff_ne]; exact c0
  obtain ⟨ad, rfl, hx⟩ := Kd.at_string HC.out 0 (by decide) (by omega)
  simp only [Int.toNat_zero, Addr.add_zero'] at hx
  have hk : headK 0 t = rdOf ByteArray.empty t.f1 0 := rfl
  rw [hk]
  have p0 : (0 < t.f1.length) = True := eq_true (by omega)
  have p1 : ((0 : Int) < (t.f1.length : Int)) = True := eq_true (by omega)
  go_enter Try.func125, Try.ntmps125
  go_wp2_with fail
  go_ret
  exact ⟨rfl, rfl⟩
/-- A row of nodes, an element. -/
theorem at_N {d : Nat} {W : World} {A : Option Addr} {n : Nat} {xs : List S56} {ok : Nat → Prop} (h : Kd.F (kN d) W ok A n xs) (i : Nat) (h1 : i < n) : ∃ ad v, A = some ad ∧ W.cell? (ad.add i) = some v ∧ Kd.FK (kN d) W ok (rd_T56 xs (i : Int)) [v] ∧ ok (ad.add i).block := by
 obtain ⟨ad, c, e, hl, hK, hc, hb⟩ := Kd.F_get h z56 (i : Int) (by omega) (by omega)
 rw [kN_sz] at hl hc hb
 obtain ⟨v, rfl⟩ := List.length_eq_one_iff.1 hl
 refine ⟨ad, v, e, ?_, hK, by rw [add_block]; exact hb (by decide)⟩
 have := hc 0 v rfl
 simpa using this
set_option maxHeartbeats 2000000 in
theorem leastS_any : ∀ (d : Nat) (r : Bool) (W : World) (b : Nat) (A : Option Addr) (c : Nat) (t : S56) (ok : Nat → Prop) (_ : InnerAt d W b A c t) (_ : Kd.F (kN d) W ok A t.f2.length t.f2) (_ : goodD (d + 1) r t), Calls Try.prog 126 #[.pointer (some ⟨b, 0, none⟩)] W fun e W' => e = .returned (.string (headK (d + 1) t)) ∧ W' = W := by
 intro d
 induction d with
 | zero =>
   intro r W b A c t ok hl hF hg
   have x1 : W.cell? ⟨b, 1, none⟩ = some (.slice A t.f2.length c) := (blk_cell hl.2.2.1 1).trans rfl
   obtain ⟨ad, v, rfl, hx, hK, _⟩ := at_N hF 0 (by have := hg.2.2.1; omega)
   rw [Addr.add_zero'] at hx
   obtain ⟨kid, hkid⟩ : ∃ kid, kid = rd_T56 t.f2 ((0 : Nat) : Int) := ⟨_, rfl⟩
   rw [← hkid] at hK
   have hh : headK 1 t = headK 0 kid := by
    rcases ht : t.f2 with _ | ⟨k, l⟩
    ·have := hg.2.2.1; rw [ht] at this; simp at this
    ·have e : kid = k := by rw [hkid, ht]; rfl
     rw [e]
     exact headK_succ ht (hg.2.2.2.2 k (by rw [ht]; simp))
   rw [hh]
   have p0 : (0 < t.f2.length) = True := eq_true (by have := hg.2.2.1; omega)
   obtain ⟨kb, kA, kc, ke, kl, _, kF⟩ := kN_open0 hK
   have hv : v = ifP 58 kb := by simpa using ke
   subst hv
   have HL := Aside0.mk kl
   have HF := Aside0.mk (Kd.F_now kF)
   have hu2 := Try.underlying87
   clear hl hF hg hK hkid hh ke kl kF
   go_enter Try.func126, Try.ntmps126
   go_wp2_with ((with_reducible refine gate_dst (N := 9) rfl ?_); refine goesI_ (some 9) rfl rfl 125 #[.pointer (some ⟨kb, 0, none⟩)] (run_invoke rfl rfl (m_least0 _ _)) ?_; refine (least0_any HL.out HF.out).mono ?_; rintro e W1 ⟨rfl, rfl⟩; refine ⟨_, rfl, ?_⟩)
   go_ret
   exact ⟨rfl, rfl⟩
 | succ d ih =>
   intro r W b A c t ok hl hF hg
   have x1 : W.cell? ⟨b, 1, none⟩ = some (.slice A t.f2.length c) := (blk_cell hl.2.2.1 1).trans rfl
   obtain ⟨ad, v, rfl, hx, hK, _⟩ := at_N hF 0 (by have := hg.2.2.1; omega)
   rw [Addr.add_zero'] at hx
   obtain ⟨kid, hkid⟩ : ∃ kid, kid = rd_T56 t.f2 ((0 : Nat) : Int) := ⟨_, rfl⟩
   rw [← hkid] at hK
   have hh : headK (d + 2) t = headK (d + 1) kid ∧ goodD (d + 1) false kid := by
    rcases ht : t.f2 with _ | ⟨k, l⟩
    ·have := hg.2.2.1; rw [ht] at this; simp at this
    ·have e : kid = k := by rw [hkid, ht]; rfl
     rw [e]
     have hgk := hg.2.2.2.2 k (by rw [ht]; simp)
     exact ⟨headK_succ ht hgk, hgk⟩
   rw [hh.1]
   have HG := Aside0.mk hh.2
   have p0 : (0 < t.f2.length) = True := eq_true (by have := hg.2.2.1; omega)
   obtain ⟨kb, kA, kc, ke, kl, _, kF⟩ := kN_openS hK
   have hv : v = ifP 79 kb := by simpa using ke
   subst hv
   have HL := Aside0.mk kl
   have HF := Aside0.mk kF
   have IH := Aside0.mk ih
   have hu2 := Try.underlying87
   clear hl hF hg hK hkid hh ke kl kF ih
   go_enter Try.func126, Try.ntmps126
   go_wp2_with ((with_reducible refine gate_dst (N := 9) rfl ?_); refine goesI_ (some 9) rfl rfl 126 #[.pointer (some ⟨kb, 0, none⟩)] (run_invoke rfl rfl (m_leastS _ _)) ?_; refine (IH.out false W kb kA kc kid _ HL.out HF.out HG.out).mono ?_; rintro e W1 ⟨rfl, rfl⟩; refine ⟨_, rfl, ?_⟩)
   go_ret
   exact ⟨rfl, rfl⟩
/-- least() of a node through the interface. -/
theorem node_least {d tp b : Nat} {r : Bool} {W : World} {ok : Nat → Prop} {t : S56} (h : Kd.FK (kN d) W ok t [ifP tp b]) (hg : goodD d r t) : ∃ f, (∀ w, (callMethod (.iface tp (.pointer (some ⟨b, 0, none⟩))) "loop.example/s01136/impl.least" #[]).run Try.prog w = .ok (.enter f #[.pointer (some ⟨b, 0, none⟩)]) w) ∧ Calls Try.prog f #[.pointer (some ⟨b, 0, none⟩)] W fun e W' => e = .returned (.string (headK d t)) ∧ W' = W := by
 cases d with
 | zero =>
   obtain ⟨b', A, c, e, hl, hb, hF⟩ := kN_open0 h
   unfold ifP at e
   simp only [List.cons.injEq, Value.iface.injEq, Value.pointer.injEq, Option.some.injEq, Addr.mk.injEq, and_true] at e
   obtain ⟨rfl, rfl⟩ := e
   exact ⟨_, m_least0 _, least0_any hl (Kd.F_now hF)⟩
 | succ d =>
   obtain ⟨b', A, c, e, hl, hb, hF⟩ := kN_openS h
   unfold ifP at e
   simp only [List.cons.injEq, Value.iface.injEq, Value.pointer.injEq, Option.some.injEq, Addr.mk.injEq, and_true] at e
   obtain ⟨rfl, rfl⟩ := e
   exact ⟨_, m_leastS _, leastS_any d r W _ A c t ok hl hF hg⟩

/-! ### zw_impl2: a text by hand -/
-- uses cell_stay keysD_le FS
def nin.gT5 : Bool × List (List Nat × List Nat) := (true, [([], []), ([0], [0]), ([1], [1]), ([2], [2]), ([3], [3]), ([], []), ([5], [5]), ([4, 6], [4, 6]), ([0, 0, 1, 2, 3, 4, 5, 6, 7], [0]), ([8, 0, 1, 2, 3, 4, 5, 6, 7], [8]), ([9, 0, 1, 2, 3, 4, 5, 6, 7], [9]), ([10, 7, 6, 0, 1, 2, 3, 4, 5, 6, 7], [7, 10])])
def nin.gB5 : List Nat := [0, 1, 3, 7, 15, 0, 32, 127, 255, 511, 1023, 2047]
theorem nin.gtab5 : rtab .any (opsOf Try.f58 5) = nin.gT5 := by kernel_rfl
theorem nin.gbits5 : waitsOk nin.gT5.2 nin.gB5 = true := by kernel_rfl
theorem sum_le {d : Nat} : ∀ (ks : List S56), (∀ k ∈ ks, goodD d false k) → ((ks.map (keysD d)).flatten).length ≤ ks.length * 4 ^ (d + 1)
 | [], _ => by simp
 | k :: ks, h => by
   have h1 := keysD_le (h k List.mem_cons_self)
   have h2 := sum_le ks (fun x hx => h x (List.mem_cons_of_mem _ hx))
   simp only [List.map_cons, List.flatten_cons, List.length_append, List.length_cons, Nat.add_mul, Nat.one_mul] at h2 ⊢
   omega
theorem sum_take {d j : Nat} {ks : List S56} (h : j < ks.length) : (((ks.take (j + 1)).map (keysD d)).flatten).length = (((ks.take j).map (keysD d)).flatten).length + (keysD d ks[j]).length := by
 rw [List.take_add_one, List.getElem?_eq_getElem h, List.map_append, List.flatten_append]
 simp
/-- keys() of a node through the interface. -/
theorem node_keys {d : Nat} {W : World} {ok : Nat → Prop} {t : S56} {v : Value} (h : Kd.FK (kN d) W ok t [v]) : ∃ tp b, v = ifP tp b ∧ ok b ∧ (callMethod (ifP tp b) "loop.example/s01136/impl.keys" #[]).run Try.prog W = .ok (.enter 124 #[.agg #[.int .i64 ((keysD d t).length : Nat)]]) W := by
 cases d with
 | zero =>
   obtain ⟨b, A, c, e, hl, hb, _⟩ := kN_open0 h
   exact ⟨_, b, by simpa using e, hb, m_keys0 hl.2.2.1⟩
 | succ d =>
   obtain ⟨b, A, c, e, hl, hb, _⟩ := kN_openS h
   exact ⟨_, b, by simpa using e, hb, m_keysS hl.2.2.1⟩
set_option maxRecDepth 100000 in
theorem node_keys2 {d tp b : Nat} {W : World} {ok : Nat → Prop} {t : S56} (h : Kd.FK (kN d) W ok t [ifP tp b]) : (callMethod (.iface tp (.pointer (some ⟨b, 0, none⟩))) "loop.example/s01136/impl.keys" #[]).run Try.prog W = .ok (.enter 124 #[.agg #[.int .i64 ((keysD d t).length : Nat)]]) W := by
 obtain ⟨tp', b', e, _, hm⟩ := node_keys h
 unfold ifP at e
 injection e with e1 e2
 injection e2 with e2
 injection e2 with e2
 injection e2 with e2
 subst e1 e2
 exact hm
set_option maxHeartbeats 8000000 in
set_option maxRecDepth 100000 in
theorem newInner_any {d : Nat} {W : World} {A : Option Addr} {c : Nat} {ks : List S56} {ok : Nat → Prop} (hd : d ≤ 29) (h4 : ks.length ≤ 4) (hg : ∀ k ∈ ks, goodD d false k) (hF : Kd.F (kN d) W ok A ks.length ks) :
  Calls Try.prog 58 #[.slice A ks.length c] W fun e W' => ∃ b, e = .returned (.pointer (some ⟨b, 0, none⟩)) ∧ W.heap.size ≤ b ∧ W'.heap[b]? = some (.cells #[.int .i64 ((((ks.map (keysD d)).flatten).length : Nat) : Int), .slice A ks.length c] 87 (0, 0)) ∧ Below W.heap.size W W' := by
 have hu1 := Try.underlying85
 have hu2 := Try.underlying87
 have hba : Below W.heap.size W (W.alloc (.cells #[.int .i64 0, .slice A ks.length c] 87)) := below_alloc (Below.refl _ _) _
 have KB := Aside0.mk (blk_new W (.cells #[.int .i64 0, .slice A ks.length c] 87))
 have HB := Aside0.mk hba
 have HF := Aside0.mk (Kd.F_mono (ok' := fun k => k < W.heap.size) (Kd.F_below (Kd.F_bound hF) hba) (fun k hk => hk.2))
 have HG := Aside0.mk hg
 have HD := Aside0.mk (And.intro hd h4)
 clear hba hF hg hd h4
 go_enter Try.func58, Try.ntmps58
 go_upto_region 2 with (fail)
 generalize (W.alloc (.cells #[.int .i64 0, .slice A ks.length c] 87)) = W0 at *
 obtain ⟨b, hb⟩ : ∃ b, b = W.heap.size := ⟨_, rfl⟩
 rw [← hb] at KB HB HF ⊢
 have HN := Aside0.mk hb
 clear hb
 go_wp2_with fail
 go_loopg [5, 11] ks.length (fun kq v5 v11 w' => ∃ j : Nat, v11 = .int .i64 (j : Int) ∧ Aside0 (j ≤ ks.length ∧ ks.length ≤ kq + j) ∧ Aside0 (w'.heap[b]? = some (.cells #[.int .i64 (((((ks.take j).map (keysD d)).flatten).length : Nat) : Int), .slice A ks.length c] 87 (0, 0))) ∧ Aside0 (Below b W w') ∧ Aside0 (Kd.F (kN d) w' (fun k => k < b) A ks.length ks))
 case atStart => exact ⟨0, rfl, ⟨by omega, by omega⟩, KB, HB, HF⟩
 case round =>
  clear KB HB HF
  obtain ⟨j, rfl, HI, KB, HB, HF⟩ := hrel
  by_cases cj : j < ks.length
  case neg =>
   have cjb : decide (j < ks.length) = false := decide_eq_false cj
   have hj : j = ks.length := by have := HI.out; omega
   have KB2 := Aside0.mk (show wr.heap[b]? = some (.cells #[.int .i64 ((((ks.map (keysD d)).flatten).length : Nat) : Int), .slice A ks.length c] 87 (0, 0)) by have := KB.out; rwa [hj, List.take_length] at this)
   clear hj
   go_wp2_with fail
   go_ret
   rw [← HN.out]
   exact ⟨b, rfl, Nat.le_refl _, KB2.out, HB.out⟩
  case pos =>
   have cjb : decide (j < ks.length) = true := decide_eq_true cj
   obtain ⟨mm, rfl⟩ : ∃ mm, gk = mm + 1 := ⟨gk - 1, by have := HI.out; omega⟩
   obtain ⟨ad, v, rfl, hx, hK, _⟩ := at_N HF.out j cj
   rw [rd56_at _ _ cj] at hK
   obtain ⟨tp, kb, rfl, hkb, hm⟩ := node_keys hK
   have HK := Aside0.mk hK
   obtain ⟨kl, hkl⟩ : ∃ kl, kl = (keysD d (ks[j]'cj)).length := ⟨_, rfl⟩
   obtain ⟨s, hs⟩ : ∃ s, s = (((ks.take j).map (keysD d)).flatten).length := ⟨_, rfl⟩
   have HS := Aside0.mk (show (((ks.take (j + 1)).map (keysD d)).flatten).length = s + kl by rw [sum_take cj, ← hkl, ← hs])
   have HSL := Aside0.mk (show s + kl ≤ 4611686018427387904 by
    have h1 := sum_le (ks.take (j + 1)) (fun k hk => HG.out k (List.mem_of_mem_take hk))
    rw [HS.out, List.length_take] at h1
    have h2 : min (j + 1) ks.length * 4 ^ (d + 1) ≤ 4 * 4 ^ (d + 1) := Nat.mul_le_mul_right _ (by have := HD.out.2; omega)
    have h3 : 4 ^ (d + 2) ≤ 4 ^ 31 := pow4 _ _ (by have := HD.out.1; omega)
    rw [Nat.pow_succ 4 (d + 1)] at h3
    omega)
   have hw : wrap64 ((s : Int) + (kl : Int)) = ((s + kl : Nat) : Int) := by have := HSL.out; unfold wrap64; omega
   have HW := Aside0.mk hw
   have HW1 := Aside0.mk (w64s j (by have := HD.out.2; omega))
   rw [← hkl] at hm
   rw [← hs] at KB
   have p5 : (0 ≤ (j : Int)) = True := eq_true (by omega)
   have q5 : ((j : Int) < (ks.length : Int)) = True := eq_true (by omega)
   have q6 : (j < ks.length) = True := eq_true cj
   have HM := Aside0.mk hm
   have HKB := Aside0.mk hkb
   have HKL := Aside0.mk hkl
   clear hs hkl hm hw hK hkb HM
   go_upto_region 5 with (fail)
   refine start_ (n := 12) (S := fun w' => w'.heap[b]? = some (.cells #[.int .i64 (s : Int), .slice (some ad) ks.length c] 87 (0, 0))) (ds := [11]) #[false, false, false, false, false, false, false, false, false, false, false, false] (by kernel_rfl) rfl rfl KB.out (fun hHeld => ?_); refine with_tabW nin.gtab5 nin.gbits5 (fun HT_ HW_ => ?_)
   have hbd : Below wr.heap.size wr wr.drew := below_drew (Below.refl _ _)
   have hlt := blk_lt KB.out
   replace KB := Aside0.mk (blk_below KB.out hbd)
   replace HB := Aside0.mk (below_lo HB.out hbd (by omega))
   replace HF := Aside0.mk (Kd.F_below HF.out hbd)
   replace HK := Aside0.mk (Kd.FK_below HK.out hbd)
   clear hbd hlt
   generalize wr.drew = W9 at *
   refine pure_ (i := 0) (N := some 15) (v := ?_) (a' := ?_) #[true, false, false, false, false, false, false, false, false, false, false, false] rfl rfl (any_of HT_.out (by kernel_rfl)) (fun _ _ _ h => h) (Or.inl ⟨by rfl, ?_⟩) ?_ ?_
   rotate_left
   ·intro w'
    go_simp
    with_reducible rfl
   rotate_left
   ·simp only [Act.put, List.setIfInBounds_toArray, List.set_cons_zero, List.set_cons_succ, i64_w, i32_w]
    rfl
   refine pure_ (i := 1) (N := some 16) (v := ?_) (a' := ?_) #[true, true, false, false, false, false, false, false, false, false, false, false] rfl rfl (any_of HT_.out (by kernel_rfl)) (fun _ _ _ h => h) (Or.inl ⟨by rfl, ?_⟩) ?_ ?_
   rotate_left
   ·intro w'
    go_simp
    with_reducible rfl
   rotate_left
   ·simp only [Act.put, List.setIfInBounds_toArray, List.set_cons_zero, List.set_cons_succ, i64_w, i32_w]
    rfl
   refine pure_ (i := 2) (N := some 17) (v := ?_) (a' := ?_) #[true, true, true, false, false, false, false, false, false, false, false, false] rfl rfl (any_of HT_.out (by kernel_rfl)) (fun _ _ _ h => h) (Or.inl ⟨by rfl, ?_⟩) ?_ ?_
   rotate_left
   ·intro w'
    go_simp
    with_reducible rfl
   rotate_left
   ·simp only [Act.put, List.setIfInBounds_toArray, List.set_cons_zero, List.set_cons_succ, i64_w, i32_w]
    rfl
   refine pure_ (i := 3) (N := some 18) (v := ?_) (a' := ?_) #[true, true, true, true, false, false, false, false, false, false, false, false] rfl rfl (any_of HT_.out (by kernel_rfl)) (fun _ _ _ h => h) (Or.inl ⟨by rfl, ?_⟩) ?_ ?_
   rotate_left
   ·intro w'
    go_simp
    with_reducible rfl
   rotate_left
   ·simp only [Act.put, List.setIfInBounds_toArray, List.set_cons_zero, List.set_cons_succ, i64_w, i32_w]
    rfl
   refine take_ (i := 4) (N := some 19) (v := ?_) (a' := ?_) #[true, true, true, true, true, false, false, false, false, false, false, false] rfl rfl (take_ofW HT_.out HW_.out (by kernel_rfl)) (fun _ _ _ h => h) (Or.inl ⟨by rfl, ?_⟩) hHeld ?_ ?_
   rotate_left
   ·rintro w' s0
    have x0 : w'.cell? ⟨b, 0, none⟩ = some (.int .i64 (s : Int)) := (blk_cell s0 0).trans rfl
    go_simp
    with_reducible rfl
   rotate_left
   ·simp only [Act.put, List.setIfInBounds_toArray, List.set_cons_zero, List.set_cons_succ, i64_w, i32_w]
    rfl
   refine pure_ (i := 5) (N := some 20) (v := ?_) (a' := ?_) #[true, true, true, true, true, true, false, false, false, false, false, false] rfl rfl (any_of HT_.out (by kernel_rfl)) (fun _ _ _ h => h) (Or.inl ⟨by rfl, ?_⟩) ?_ ?_
   rotate_left
   ·intro w'
    go_simp
    with_reducible rfl
   rotate_left
   ·simp only [Act.put, List.setIfInBounds_toArray, List.set_cons_zero, List.set_cons_succ, i64_w, i32_w]
    rfl
   refine one_ (i := 6) (N := some 21) #[true, true, true, true, true, true, true, false, false, false, false, false] rfl rfl (one_of HT_.out (by kernel_rfl)) (by decide) (fun K hK => ?_)
   have hm := node_keys2 HK.out
   rw [← HKL.out] at hm
   refine call_ 124 #[.agg #[.int .i64 (kl : Int)]] (by rfl) rfl (run_invoke rfl rfl hm) ?_
   refine (keys_any _ _).mono ?_
   rintro e We ⟨rfl, hb⟩
   refine ⟨_, rfl, ?_⟩
   have hlt := blk_lt KB.out
   replace KB := Aside0.mk (blk_below KB.out hb)
   replace HB := Aside0.mk (below_lo HB.out hb (by omega))
   replace HF := Aside0.mk (Kd.F_below HF.out hb)
   replace HK := Aside0.mk (Kd.FK_below HK.out hb)
   clear hb hm hlt
   refine hK.out _ _ KB.out (fun hHeld => ?_)
   clear hK K
   refine norm_ (a' := ?_) ?_ ?_
   rotate_left
   ·show Act.put _ (some 21) _ = _
    simp only [Act.put, List.setIfInBounds_toArray, List.set_cons_zero, List.set_cons_succ, i64_w, i32_w]
    rfl
   refine pure_ (i := 7) (N := some 22) (v := ?_) (a' := ?_) #[true, true, true, true, true, true, true, true, false, false, false, false] rfl rfl (any_of HT_.out (by kernel_rfl)) (fun _ _ _ h => h) (Or.inl ⟨by rfl, ?_⟩) ?_ ?_
   rotate_left
   ·intro w'
    go_simp
    with_reducible rfl
   rotate_left
   ·simp only [Act.put, List.setIfInBounds_toArray, List.set_cons_zero, List.set_cons_succ, i64_w, i32_w]
    rfl
   refine pure_ (i := 8) (N := some 23) (v := ?_) (a' := ?_) #[true, true, true, true, true, true, true, true, true, false, false, false] rfl rfl (any_of HT_.out (by kernel_rfl)) (fun _ _ _ h => h) (Or.inl ⟨by rfl, ?_⟩) ?_ ?_
   rotate_left
   ·intro w'
    go_simp
    with_reducible rfl
   rotate_left
   ·simp only [Act.put, List.setIfInBounds_toArray, List.set_cons_zero, List.set_cons_succ, i64_w, i32_w]
    rfl
   refine pure_ (i := 9) (N := some 24) (v := ?_) (a' := ?_) #[true, true, true, true, true, true, true, true, true, true, false, false] rfl rfl (any_of HT_.out (by kernel_rfl)) (fun _ _ _ h => h) (Or.inl ⟨by rfl, ?_⟩) ?_ ?_
   rotate_left
   ·intro w'
    go_simp
    with_reducible rfl
   rotate_left
   ·simp only [Act.put, List.setIfInBounds_toArray, List.set_cons_zero, List.set_cons_succ, i64_w, i32_w]
    rfl
   refine pure_ (i := 10) (N := some 25) (v := ?_) (a' := ?_) #[true, true, true, true, true, true, true, true, true, true, true, false] rfl rfl (any_of HT_.out (by kernel_rfl)) (fun _ _ _ h => h) (Or.inl ⟨by rfl, ?_⟩) ?_ ?_
   rotate_left
   ·intro w'
    go_simp
    with_reducible rfl
   rotate_left
   ·simp only [Act.put, List.setIfInBounds_toArray, List.set_cons_zero, List.set_cons_succ, i64_w, i32_w]
    rfl
   refine last_ (i := 11) (N := none) #[true, true, true, true, true, true, true, true, true, true, true, true] rfl rfl (one_of HT_.out (by kernel_rfl)) (by decide) (fun K hK => ?_)
   have x0 : World.cell? _ ⟨b, 0, none⟩ = some (.int .i64 (s : Int)) := (blk_cell KB.out 0).trans rfl
   have y0 := blk_frozen KB.out 0
   have yl := blk_lt KB.out
   refine skip_ (w1 := ?_) (by rfl) rfl ?_ ?_
   rotate_left
   ·go_simp
    rfl
   refine hK.out _ _ ?_
   clear hK K
   refine done_ (done_of HT_.out (by kernel_rfl)) ?_
   go_wp2_with fail
   try rw [i64_w]
   try rw [HW.out]
   go_roundg mm
   case measure => omega
   case rel => exact ⟨j + 1, by rw [HW1.out], ⟨by have := HI.out; omega⟩, ⟨by rw [HS.out]; first | exact blk_put KB.out 0 _ rfl | (rw [← HW.out]; exact blk_put KB.out 0 _ rfl)⟩, ⟨HB.out.setCell (Nat.le_refl _) _⟩, ⟨Kd.F_far (p := ⟨b, 0, none⟩) HF.out (fun k hk => Nat.ne_of_lt hk) _⟩⟩
end Go.Proofs.Ytfjcfklgnlmjjaa.PB
