-- Made by this session's programs out of the translation and of its own texts.
import Derived.Test.YtfjcfklgnlmjjaaMFnExactTreeRanged
namespace Go.Proofs.Ytfjcfklgnlmjjaa.PB
open Go.RowKit Go.Proofs.YtfjcfklgnlmjjaaW.PrintWords Go.Proofs.YtfjcfklgnlmjjaaW.PrintLast Go.Proofs.YtfjcfklgnlmjjaaW.PrintMore
attribute [local go_sem] max2_int min2_int max_two min_two max_three min_three max_four min_four   -- for this text's walks alone
set_option linter.unusedVariables false
set_option linter.unusedSimpArgs false

/-! ### zx_node: a text by hand -/
-- uses cell_stay keysD_le FS okT
def nod.gT19 : Bool × List (List Nat × List Nat) := (true, [([], []), ([0], [0]), ([1], [1]), ([2], [2]), ([3, 2], [2, 3]), ([4, 2, 2], [2, 4]), ([5], [5]), ([5], [5]), ([6, 7, 5], [5, 6, 7]), ([8, 5, 5], [5, 8]), ([9], [9]), ([10, 9, 9], [9, 10]), ([9], [9]), ([12, 9], [9, 12]), ([9], [9]), ([14, 9], [9, 14]), ([13, 15, 9], [9, 13, 15]), ([16, 9], [9, 16]), ([11, 17, 9], [9, 11, 17]), ([9, 18, 5], [5, 9, 18]), ([5, 19, 2], [2, 5, 19]), ([2, 20], [2, 20])])
def nod.gB19 : List Nat := [0, 1, 3, 7, 15, 31, 63, 63, 255, 511, 1023, 2047, 1023, 5119, 1023, 17407, 62463, 127999, 262143, 524287, 1048575, 2097151]
theorem nod.gtab19 : rtab .any (opsOf Try.f70 19) = nod.gT19 := by kernel_rfl
theorem nod.gbits19 : waitsOk nod.gT19.2 nod.gB19 = true := by kernel_rfl
structure NS (g : Nat) (W W' : World) : Prop where
 b : Below g W W'
 k : ∀ k, k < W.heap.size → k ≠ g → W'.heap[k]? = W.heap[k]?
theorem NS.refl (g : Nat) (W : World) : NS g W W := ⟨Below.refl _ _, fun _ _ _ => rfl⟩
theorem NS.trans {g : Nat} {W W1 W2 : World} (h : NS g W W1) (h2 : NS g W1 W2) : NS g W W2 := ⟨below_same h.b h2.b, fun k hk hg => (h2.k k (Nat.lt_of_lt_of_le hk h.b.size) hg).trans (h.k k hk hg)⟩
theorem NS.of_below {g : Nat} {W W1 : World} (h : Below W.heap.size W W1) (hg : g ≤ W.heap.size) : NS g W W1 := ⟨below_less h hg, fun k hk _ => h.block k hk⟩
theorem NS.below {g : Nat} {W W1 W2 : World} (h : NS g W W1) (h2 : Below W1.heap.size W1 W2) (hg : g ≤ W1.heap.size) : NS g W W2 := h.trans (NS.of_below h2 hg)
theorem NS.set {g : Nat} {W W1 : World} (h : NS g W W1) (j : Nat) (v : Value) : NS g W (W1.setCell ⟨g, j, none⟩ v) := ⟨h.b.setCell (Nat.le_refl _) _, fun k hk hne => (Below.heap_setCell W1 ⟨g, j, none⟩ v k hne).trans (h.k k hk hne)⟩
def NodeEnd (n0 : Nat) (ns : List S90) (f : Nat) (root : Bool) (next : Int) (g : Nat) (A : Option Addr) (c : Nat) (W : World) (e : Ending) (W' : World) : Prop :=
 NS g W W' ∧ ((readD ns f root next = none ∧ e = .returned (.tuple #[.nilIface, .int .i64 0])) ∨
 (∃ x d after tp b, readD ns f root next = some (x, d, after) ∧ e = .returned (.tuple #[ifP tp b, .int .i64 ((d : Nat) : Int)]) ∧ Kd.FK (kN d) W' (fun k => k < n0 ∨ W.heap.size ≤ k) x [ifP tp b] ∧ W'.heap[g]? = some (.cells #[.slice A ns.length c, .int .i64 after] 104 (0, 0))))
theorem readD_none_end {ns : List S90} {f : Nat} {root : Bool} {next : Int} (h : ¬ next < (ns.length : Int)) : readD ns f root next = none := by
 cases f with
 | zero => rfl
 | succ f => unfold readD; rw [if_neg h]
theorem results_tt {P : Program} {fn : Func} {u v : Tmp} (h : fn.results = #[.tmp u, .tmp v]) (tmps : Array Value) (w : World) : (results fn tmps).run P w = .ok (.tuple #[tmps.getD u undef, tmps.getD v undef]) w := by
 simp [results, h, Sem.run_bind, Result.andThen]
theorem eql_nil (w : World) (tp : Nat) (v : Value) : (binOp .eql 67 (.iface tp v) .nilIface).run Try.prog w = .ok (.bool false) w := by
 have h : ∀ d : Nat, (Op.equalIn (d + 1) 67 (.iface tp v) .nilIface).run Try.prog w = .ok false w := fun d => by simp [Op.equalIn, run_underlying Try.underlying67]
 simp only [binOp]
 simp [Op.equal, Op.maxDepth, h 9999]
theorem eql_nn (w : World) : (binOp .eql 67 .nilIface .nilIface).run Try.prog w = .ok (.bool true) w := by
 have h : ∀ d : Nat, (Op.equalIn (d + 1) 67 .nilIface .nilIface).run Try.prog w = .ok true w := fun d => by simp [Op.equalIn, run_underlying Try.underlying67]
 simp only [binOp]
 simp [Op.equal, Op.maxDepth, h 9999]
theorem readD_depth {ns : List S90} : ∀ (f : Nat) (root : Bool) (a : Int) (x : S56) (d : Nat) (after : Int), readD ns f root a = some (x, d, after) → d < f
 | 0, _, _, _, _, _, h => by cases h
 | f + 1, root, a, x, d, after, h => by
   unfold readD at h
   have key : ∀ (ks : List Int) (seps : List ByteArray) (i lv : Nat) (nx : Int) (acc xs : List S56) (lv2 : Nat) (af : Int), readL (readD ns f false) seps ks i lv nx acc = some (xs, lv2, af) → lv2 = lv ∨ lv2 < f := by
    intro ks
    induction ks with
    | nil =>
      intro seps i lv nx acc xs lv2 af h
      simp only [readL, Option.some.injEq, Prod.mk.injEq] at h
      exact Or.inl h.2.1.symm
    | cons k ks ih =>
      intro seps i lv nx acc xs lv2 af h
      unfold readL at h
      split at h
      ·split at h
       ·cases h
       ·next hr =>
        split at h
        ·cases h
        ·rcases ih _ _ _ _ _ _ _ _ h with e | e
         ·rw [e]; exact Or.inr (readD_depth f false _ _ _ _ hr)
         ·exact Or.inr e
      ·cases h
   split at h
   ·split at h
    · split at h
      ·simp only [Option.some.injEq, Prod.mk.injEq] at h
       omega
      ·cases h
    · split at h
      ·next hc =>
       split at h
       ·cases h
       ·next hr =>
        split at h
        ·simp only [Option.some.injEq, Prod.mk.injEq] at h
         obtain ⟨_, rfl, _⟩ := h
         rcases hk : (rd_T90 ns a).f2 with _ | ⟨k, ks⟩
         ·rw [hk] at hc; simp at hc
         ·rw [hk] at hr
          unfold readL at hr
          split at hr
          ·split at hr
           ·cases hr
           ·next hr2 =>
            split at hr
            ·cases hr
            ·rcases key _ _ _ _ _ _ _ _ _ hr with e | e
             ·have := readD_depth f false _ _ _ _ hr2
              omega
             ·omega
          ·cases hr
        ·cases h
      ·cases h
   ·cases h
theorem readL_cons (rec : Int → Option (S56 × Nat × Int)) (seps : List ByteArray) (k : Int) (ks : List Int) (i lv : Nat) (nx : Int) (acc : List S56) : readL rec seps (k :: ks) i lv nx acc = if k = nx then (match rec nx with
 | none => none
 | some (x, below, after) => if 0 < i ∧ (below ≠ lv ∨ headK below x ≠ seps.getD (i - 1) ByteArray.empty) then none else readL rec seps ks (i + 1) below after (acc ++ [x])) else none := rfl
set_option maxHeartbeats 32000000 in
set_option maxRecDepth 100000 in
theorem node_any (n0 : Nat) (ns : List S90) (hl : ns.length ≤ 1048576) : ∀ (f : Nat) (dep : Int) (_ : dep + f = 31) (_ : 0 ≤ dep) (root : Bool) (_ : root = decide (dep = 0)) (next : Int) (_ : 0 ≤ next) (A : Option Addr) (c g : Nat) (W : World) (_ : Kd.F k90 W (fun k => k < n0) A ns.length ns) (_ : n0 ≤ g) (_ : W.heap[g]? = some (.cells #[.slice A ns.length c, .int .i64 next] 104 (0, 0))),
   Calls Try.prog 70 #[.pointer (some ⟨g, 0, none⟩), .int .i64 dep] W fun e W' => NodeEnd n0 ns f root next g A c W e W' := by
 intro f
 induction f with
 | zero =>
   intro dep hd h0 root hroot next hn A c g W hF hg hG
   have x0 : W.cell? ⟨g, 0, none⟩ = some (.slice A ns.length c) := (blk_cell hG 0).trans rfl
   have x1 : W.cell? ⟨g, 1, none⟩ = some (.int .i64 next) := (blk_cell hG 1).trans rfl
   have hgl := blk_lt hG
   have g2 : decide (30 < dep) = true := decide_eq_true (by omega)
   have HR := Aside0.mk (show readD ns 0 root next = none from rfl)
   clear hF hG hroot
   by_cases c1 : (ns.length : Int) ≤ next
   ·have g1 : decide ((ns.length : Int) ≤ next) = true := decide_eq_true c1
    go_enter Try.func70, Try.ntmps70
    go_wp2_with fail
    go_quiet (fail)
    go_wp2_with fail
    refine bodyPost_ret (results_tt rfl _ _) rfl ?_
    exact ⟨NS.of_below (pw_below_drewN (Below.refl _ _) _) (by omega), Or.inl ⟨HR.out, rfl⟩⟩
   ·have g1 : decide ((ns.length : Int) ≤ next) = false := decide_eq_false c1
    go_enter Try.func70, Try.ntmps70
    go_wp2_with fail
    go_quiet (fail)
    go_wp2_with fail
    refine bodyPost_ret (results_tt rfl _ _) rfl ?_
    exact ⟨NS.of_below (pw_below_drewN (Below.refl _ _) _) (by omega), Or.inl ⟨HR.out, rfl⟩⟩
 | succ f ih =>
   intro dep hd h0 root hroot next hn A c g W hF hg hG
   have x0 : W.cell? ⟨g, 0, none⟩ = some (.slice A ns.length c) := (blk_cell hG 0).trans rfl
   have x1 : W.cell? ⟨g, 1, none⟩ = some (.int .i64 next) := (blk_cell hG 1).trans rfl
   have hgl := blk_lt hG
   have g2 : decide (30 < dep) = false := decide_eq_false (by omega)
   by_cases c1 : next < (ns.length : Int)
   case neg =>
    have HR := Aside0.mk (readD_none_end (f := f + 1) (root := root) c1)
    have g1 : decide ((ns.length : Int) ≤ next) = true := decide_eq_true (by omega)
    clear hF hG hroot ih
    go_enter Try.func70, Try.ntmps70
    go_wp2_with fail
    go_quiet (fail)
    go_wp2_with fail
    refine bodyPost_ret (results_tt rfl _ _) rfl ?_
    exact ⟨NS.of_below (pw_below_drewN (Below.refl _ _) _) (by omega), Or.inl ⟨HR.out, rfl⟩⟩
   case pos =>
   have g1 : decide ((ns.length : Int) ≤ next) = false := decide_eq_false (by omega)
   obtain ⟨nd, hnd⟩ : ∃ nd, nd = rd_T90 ns next := ⟨_, rfl⟩
   obtain ⟨r, hr⟩ : ∃ r, r = readD ns (f + 1) root next := ⟨_, rfl⟩
   have hr2 := hr
   unfold readD at hr2
   rw [if_pos c1, ← hnd] at hr2
   have HRR := Aside0.mk hr
   have HR := Aside0.mk hr2
   have HF := Aside0.mk hF
   have KG := Aside0.mk hG
   have HP := Aside0.mk (And.intro hd (And.intro h0 (And.intro hn (And.intro c1 hl))))
   have HRT := Aside0.mk hroot
   have HN0 := Aside0.mk hg
   have HND := Aside0.mk hnd
   have IH := Aside0.mk ih
   have HS0 := Aside0.mk (NS.refl g W)
   clear hr hr2 ih hroot hG hF
   have hu90 := Try.underlying90
   have hu67 := Try.underlying67
   have hu104 := Try.underlying104
   obtain ⟨W0, hW0⟩ : ∃ W0, W0 = W := ⟨_, rfl⟩
   rw [← hW0] at HS0
   have HW0 := Aside0.mk hW0
   clear hW0 hnd
   go_enter Try.func70, Try.ntmps70
   go_wp2_with fail
   go_quiet (fail)
   go_upto_region 3 with (fail)
   have hd1 : Below W.heap.size W (W.drewN nq) := pw_below_drewN (Below.refl _ _) _
   replace HF := Aside0.mk (Kd.F_below HF.out hd1)
   replace KG := Aside0.mk (blk_below KG.out hd1)
   replace HS0 := Aside0.mk (HS0.out.below (g := g) (by rw [HW0.out]; exact hd1) (by rw [HW0.out]; omega))
   clear x0 x1 hgl hd1
   generalize W.drewN nq = W1 at *
   have x0 : W1.cell? ⟨g, 0, none⟩ = some (.slice A ns.length c) := (blk_cell KG.out 0).trans rfl
   have x1 : W1.cell? ⟨g, 1, none⟩ = some (.int .i64 next) := (blk_cell KG.out 1).trans rfl
   obtain ⟨ad, A1, c1', A2, c2', rfl, q0, q1, q2, q3, l1, f1, l2, f2⟩ := at_F90 HF.out next hn c1
   rw [← HND.out] at q0 q1 q2 q3 l1 f1 l2 f2
   have FA := Aside0.mk f1
   have FB := Aside0.mk f2
   have HL := Aside0.mk (And.intro l1 l2)
   have p5 : (0 ≤ next) = True := eq_true hn
   have q5 : (next < (ns.length : Int)) = True := eq_true c1
   have hgl := blk_lt KG.out
   have hql := World.block_lt_of_cell? W1 _ q0
   have HW1 := Aside0.mk (show W0.heap.size ≤ W1.heap.size from HS0.out.b.size)
   clear f1 f2 l1 l2 g1 g2
   go_region
   go_upto_region 4 with (fail)
   have hd2 : Below W1.heap.size W1 (W1.alloc (.cells #[.bool nd.f0, .slice A1 nd.f1.length c1', .slice A2 nd.f2.length c2', .int .i64 nd.f3] 90)).drew := below_drew (below_alloc (Below.refl _ _) _)
   have KT := Aside0.mk (blk_drew (blk_new W1 (.cells #[.bool nd.f0, .slice A1 nd.f1.length c1', .slice A2 nd.f2.length c2', .int .i64 nd.f3] 90)))
   replace HF := Aside0.mk (Kd.F_below HF.out hd2)
   replace FA := Aside0.mk (Kd.F_below FA.out hd2)
   replace FB := Aside0.mk (Kd.F_below FB.out hd2)
   replace KG := Aside0.mk (blk_below KG.out hd2)
   replace HS0 := Aside0.mk (HS0.out.below hd2 (Nat.le_of_lt hgl))
   have HZ := Aside0.mk (show (W1.alloc (.cells #[.bool nd.f0, .slice A1 nd.f1.length c1', .slice A2 nd.f2.length c2', .int .i64 nd.f3] 90)).drew.heap.size = W1.heap.size + 1 by simp [World.drew])
   generalize (W1.alloc (.cells #[.bool nd.f0, .slice A1 nd.f1.length c1', .slice A2 nd.f2.length c2', .int .i64 nd.f3] 90)).drew = W2 at *
   obtain ⟨mt, hmt⟩ : ∃ mt, mt = W1.heap.size := ⟨_, rfl⟩
   rw [← hmt] at KT HZ hgl ⊢
   have HGT := Aside0.mk hgl
   have hw1 : W0.heap.size ≤ mt := by rw [hmt]; exact HW1.out
   have HWT := Aside0.mk hw1
   clear hd2 x0 x1 q0 q1 q2 q3 p5 q5 hgl hql hmt hw1 HW1
   have x0 : W2.cell? ⟨g, 0, none⟩ = some (.slice (some ad) ns.length c) := (blk_cell KG.out 0).trans rfl
   have x1 : W2.cell? ⟨g, 1, none⟩ = some (.int .i64 next) := (blk_cell KG.out 1).trans rfl
   have y1 := blk_frozen KG.out 1
   have hw : wrap64 (next + 1) = next + 1 := by have := HP.out; unfold wrap64; omega
   go_upto_region 5 with (fail)
   try rw [hw]
   have hg2 : ∀ k, k < n0 → k ≠ (⟨g, 1, none⟩ : Addr).block := fun k hk => by have := HN0.out; show k ≠ g; omega
   replace KG := Aside0.mk (show (W2.setCell ⟨g, 1, none⟩ (.int .i64 (next + 1))).heap[g]? = some (.cells #[.slice (some ad) ns.length c, .int .i64 (next + 1)] 104 (0, 0)) from blk_put KG.out 1 _ rfl)
   replace KT := Aside0.mk (blk_far KT.out (p := ⟨g, 1, none⟩) (show mt ≠ g by have := HGT.out; omega) (.int .i64 (next + 1)))
   replace HF := Aside0.mk (Kd.F_far HF.out hg2 (.int .i64 (next + 1)))
   replace FA := Aside0.mk (Kd.F_far FA.out hg2 (.int .i64 (next + 1)))
   replace FB := Aside0.mk (Kd.F_far FB.out hg2 (.int .i64 (next + 1)))
   replace HS0 := Aside0.mk (HS0.out.set 1 (.int .i64 (next + 1)))
   replace HZ := Aside0.mk (show (W2.setCell ⟨g, 1, none⟩ (.int .i64 (next + 1))).heap.size = mt + 1 by rw [sz_set]; exact HZ.out)
   generalize (W2.setCell ⟨g, 1, none⟩ (.int .i64 (next + 1))) = W3 at *
   clear x0 x1 y1 hw hg2
   obtain ⟨x0, x1, x2, x3, y0, y1, y2, y3⟩ := blk_cells4 KT.out
   rcases hf0 : nd.f0 with _ | _
   case true =>
    rw [hf0] at x0
    have hrr := HR.out
    rw [if_pos hf0, HRR.out] at hrr
    have HE := Aside0.mk hrr
    have HF0 := Aside0.mk hf0
    clear hrr hf0
    by_cases ca : nd.f2.length = 0
    case neg =>
     have ga : decide (0 < nd.f2.length) = true := decide_eq_true (by omega)
     have gab : decide ((0 : Int) < (nd.f2.length : Int)) = true := decide_eq_true (by omega)
     have hno : readD ns (f + 1) root next = none := by rw [HE.out, if_neg (fun h => ca h.1)]
     go_wp2_with fail
     refine bodyPost_ret (results_tt rfl _ _) rfl ?_
     exact ⟨by rw [← HW0.out]; exact HS0.out, Or.inl ⟨hno, rfl⟩⟩
    case pos =>
    have ga : decide (0 < nd.f2.length) = false := decide_eq_false (by omega)
    have gab : decide ((0 : Int) < (nd.f2.length : Int)) = false := decide_eq_false (by omega)
    by_cases cb : nd.f1.length ≤ 4
    case neg =>
     have gb : decide (4 < nd.f1.length) = true := decide_eq_true (by omega)
     have gbb : decide ((4 : Int) < (nd.f1.length : Int)) = true := decide_eq_true (by omega)
     have hno : readD ns (f + 1) root next = none := by rw [HE.out, if_neg (fun h => cb h.2.1)]
     go_wp2_with fail
     refine bodyPost_ret (results_tt rfl _ _) rfl ?_
     exact ⟨by rw [← HW0.out]; exact HS0.out, Or.inl ⟨hno, rfl⟩⟩
    case pos =>
    have gb : decide (4 < nd.f1.length) = false := decide_eq_false (by omega)
    have gbb : decide ((4 : Int) < (nd.f1.length : Int)) = false := decide_eq_false (by omega)
    by_cases cc : nd.f3 = (nd.f1.length : Nat)
    case neg =>
     have gc : (nd.f3 != (nd.f1.length : Int)) = true := by simpa using cc
     have hno : readD ns (f + 1) root next = none := by rw [HE.out, if_neg (fun h => cc h.2.2.1)]
     go_wp2_with fail
     refine bodyPost_ret (results_tt rfl _ _) rfl ?_
     exact ⟨by rw [← HW0.out]; exact HS0.out, Or.inl ⟨hno, rfl⟩⟩
    case pos =>
    have gc : (nd.f3 != (nd.f1.length : Int)) = false := by simpa using cc
    by_cases ce : 0 < dep ∧ nd.f1.length < 2
    case pos =>
     have ge : decide (0 < dep) = true := decide_eq_true ce.1
     have gf : decide (nd.f1.length < 2) = true := decide_eq_true (ce.2)
     have gfb : decide ((nd.f1.length : Int) < 2) = true := decide_eq_true (by have := ce.2; omega)
     have hno : readD ns (f + 1) root next = none := by rw [HE.out, if_neg (fun h => by
      rcases h.2.2.2 with h | h
      ·rw [HRT.out] at h
       have := of_decide_eq_true h
       omega
      ·omega)]
     go_wp2_with fail
     refine bodyPost_ret (results_tt rfl _ _) rfl ?_
     exact ⟨by rw [← HW0.out]; exact HS0.out, Or.inl ⟨hno, rfl⟩⟩
    case neg =>
    by_cases cg : 0 < dep
    ·have ge : decide (0 < dep) = true := decide_eq_true cg
     have gf : decide (nd.f1.length < 2) = false := decide_eq_false (fun h => ce ⟨cg, h⟩)
     have gfb : decide ((nd.f1.length : Int) < 2) = false := decide_eq_false (fun h => ce ⟨cg, by omega⟩)
     have hyes : readD ns (f + 1) root next = some (⟨true, nd.f1, []⟩, 0, next + 1) := by rw [HE.out, if_pos ⟨ca, cb, cc, Or.inr (by rcases Nat.lt_or_ge nd.f1.length 2 with h | h; exact absurd ⟨cg, h⟩ ce; exact h)⟩]
     go_wp2_with fail
     refine (newLeaf_any _ _ _ _).mono ?_
     rintro e W4 ⟨b, rfl, hbs, hbk, hbb⟩
     go_wp2_with fail
     refine bodyPost_ret (results_tt rfl _ _) rfl ?_
     refine ⟨by rw [← HW0.out]; exact HS0.out.below hbb (by have := HZ.out; have := HGT.out; omega), Or.inr ⟨⟨true, nd.f1, []⟩, 0, next + 1, 58, b, hyes, rfl, ?_, blk_below KG.out hbb⟩⟩
     exact kN_mk0 (A := A1) (c := c1') ⟨rfl, rfl, hbk, HL.out.1⟩ (Or.inr (by rw [← HW0.out]; have := HWT.out; have := HZ.out; omega)) (Kd.F_mono (Kd.F_below FA.out hbb) (fun k hk => Or.inl hk))
    ·have ge : decide (0 < dep) = false := decide_eq_false cg
     have hyes : readD ns (f + 1) root next = some (⟨true, nd.f1, []⟩, 0, next + 1) := by rw [HE.out, if_pos ⟨ca, cb, cc, Or.inl (by rw [HRT.out]; exact decide_eq_true (by have := HP.out; omega))⟩]
     go_wp2_with fail
     refine (newLeaf_any _ _ _ _).mono ?_
     rintro e W4 ⟨b, rfl, hbs, hbk, hbb⟩
     go_wp2_with fail
     refine bodyPost_ret (results_tt rfl _ _) rfl ?_
     refine ⟨by rw [← HW0.out]; exact HS0.out.below hbb (by have := HZ.out; have := HGT.out; omega), Or.inr ⟨⟨true, nd.f1, []⟩, 0, next + 1, 58, b, hyes, rfl, ?_, blk_below KG.out hbb⟩⟩
     exact kN_mk0 (A := A1) (c := c1') ⟨rfl, rfl, hbk, HL.out.1⟩ (Or.inr (by rw [← HW0.out]; have := HWT.out; have := HZ.out; omega)) (Kd.F_mono (Kd.F_below FA.out hbb) (fun k hk => Or.inl hk))
   case false =>
    rw [hf0] at x0
    have hrr := HR.out
    rw [if_neg (by rw [hf0]; decide), HRR.out] at hrr
    have HE := Aside0.mk hrr
    have HF0 := Aside0.mk hf0
    clear hrr hf0
    by_cases ca : 2 ≤ nd.f2.length
    case neg =>
     have ga : decide (nd.f2.length < 2) = true := decide_eq_true (by omega)
     have gab : decide ((nd.f2.length : Int) < 2) = true := decide_eq_true (by omega)
     have hno : readD ns (f + 1) root next = none := by rw [HE.out, if_neg (fun h => ca h.1)]
     go_wp2_with fail
     refine bodyPost_ret (results_tt rfl _ _) rfl ?_
     exact ⟨by rw [← HW0.out]; exact HS0.out, Or.inl ⟨hno, rfl⟩⟩
    case pos =>
    have ga : decide (nd.f2.length < 2) = false := decide_eq_false (by omega)
    have gab : decide ((nd.f2.length : Int) < 2) = false := decide_eq_false (by omega)
    by_cases cb : nd.f2.length ≤ 4
    case neg =>
     have gb : decide (4 < nd.f2.length) = true := decide_eq_true (by omega)
     have gbb : decide ((4 : Int) < (nd.f2.length : Int)) = true := decide_eq_true (by omega)
     have hno : readD ns (f + 1) root next = none := by rw [HE.out, if_neg (fun h => cb h.2.1)]
     go_wp2_with fail
     refine bodyPost_ret (results_tt rfl _ _) rfl ?_
     exact ⟨by rw [← HW0.out]; exact HS0.out, Or.inl ⟨hno, rfl⟩⟩
    case pos =>
    have gb : decide (4 < nd.f2.length) = false := decide_eq_false (by omega)
    have gbb : decide ((4 : Int) < (nd.f2.length : Int)) = false := decide_eq_false (by omega)
    have hw : wrap64 ((nd.f2.length : Int) - 1) = (nd.f2.length : Int) - 1 := by unfold wrap64; omega
    by_cases cc : nd.f1.length + 1 = nd.f2.length
    case neg =>
     have gc : ((nd.f1.length : Int) != (nd.f2.length : Int) - 1) = true := by rw [bne_iff_ne]; omega
     have hno : readD ns (f + 1) root next = none := by rw [HE.out, if_neg (fun h => cc h.2.2)]
     go_wp2_with fail
     refine bodyPost_ret (results_tt rfl _ _) rfl ?_
     exact ⟨by rw [← HW0.out]; exact HS0.out, Or.inl ⟨hno, rfl⟩⟩
    case pos =>
    have gc : ((nd.f1.length : Int) != (nd.f2.length : Int) - 1) = false := by rw [bne_eq_false_iff_eq]; omega
    have hee := HE.out
    rw [if_pos ⟨ca, cb, cc⟩] at hee
    replace HE := Aside0.mk hee
    have HC := Aside0.mk (And.intro ca (And.intro cb cc))
    obtain ⟨rl, hrl⟩ : ∃ rl, rl = readL (readD ns f false) nd.f1 nd.f2 0 0 (next + 1) [] := ⟨_, rfl⟩
    rw [← hrl] at hee
    replace HE := Aside0.mk hee
    have HRL := Aside0.mk hrl
    have HNK := Aside0.mk (Kd.N_nil (kN 0) 67 W3 (mt + 1) (fun k => k < n0 ∨ mt + 1 ≤ k))
    have HX0 := Aside0.mk (show (0 : Int) ≤ next + 1 by omega)
    go_wp2_with fail
    have HZ3 := HZ
    clear ga gab gb gbb gc hw hee hrl ca cb cc x0 x1 x2 x3 y0 y1 y2 y3
    go_loopg [7, 8, 102] nd.f2.length (fun kq v7 v8 v102 w' => ∃ (j : Nat) (acc : List S56) (lv : Nat) (nx : Int) (A7 : Option Addr) (c7 : Nat), v7 = .slice A7 acc.length c7 ∧ v8 = .int .i64 (lv : Int) ∧ v102 = .int .i64 (j : Int) ∧ Aside0 (j ≤ nd.f2.length ∧ nd.f2.length ≤ kq + j ∧ acc.length = j ∧ 0 ≤ nx ∧ lv ≤ 29) ∧ Aside0 (rl = readL (readD ns f false) nd.f1 (nd.f2.drop j) j lv nx acc) ∧ Aside0 (∀ k ∈ acc, goodD lv false k) ∧ Aside0 (j = 0 → A7 = none ∧ c7 = 0) ∧ Aside0 (w'.heap[g]? = some (.cells #[.slice (some ad) ns.length c, .int .i64 nx] 104 (0, 0))) ∧ Aside0 (Kd.N (kN lv) 67 w' (mt + 1) (fun k => k < n0 ∨ mt + 1 ≤ k) (.slice A7 acc.length c7) acc) ∧ Aside0 (NS g W3 w'))
    case atStart => exact ⟨0, [], 0, next + 1, none, 0, rfl, rfl, rfl, ⟨by omega, by omega, rfl, HX0.out, by omega⟩, HRL, ⟨by simp⟩, ⟨fun _ => ⟨rfl, rfl⟩⟩, KG, HNK, ⟨NS.refl _ _⟩⟩
    case round =>
     clear HNK KG HRL
     obtain ⟨j, acc, lv, nx, A7, c7, rfl, rfl, rfl, HI, HQ, HGA, HJ0, KG, HNK, HS⟩ := hrel
     replace KT := Aside0.mk ((HS.out.k mt (by have := HZ.out; omega) (by have := HGT.out; omega)).trans KT.out)
     replace HF := Aside0.mk (Kd.F_step HF.out (fun k hk hlt => HS.out.k k hlt (by have := HN0.out; omega)))
     replace FA := Aside0.mk (Kd.F_step FA.out (fun k hk hlt => HS.out.k k hlt (by have := HN0.out; omega)))
     replace FB := Aside0.mk (Kd.F_step FB.out (fun k hk hlt => HS.out.k k hlt (by have := HN0.out; omega)))
     replace HS0 := Aside0.mk (HS0.out.trans HS.out)
     replace HZ := Aside0.mk (show mt + 1 ≤ wr.heap.size by rw [← HZ.out]; exact HS.out.b.size)
     obtain ⟨x0, x1, x2, x3, y0, y1, y2, y3⟩ := blk_cells4 KT.out
     have r1 : wr.cell? ⟨g, 1, none⟩ = some (.int .i64 nx) := (blk_cell KG.out 1).trans rfl
     by_cases cj : j < nd.f2.length
     case neg =>
      have cjb : decide (j < nd.f2.length) = false := decide_eq_false cj
      have hj : j = nd.f2.length := by have := HI.out; omega
      have HQE := Aside0.mk (show rl = some (acc, lv, nx) by rw [HQ.out, hj, List.drop_length]; rfl)
      have hal : acc.length ≤ 4 := by have := HI.out; have := HC.out; omega
      have HWL := Aside0.mk (show wrap64 ((lv : Int) + 1) = ((lv + 1 : Nat) : Int) from w64s lv (by have := HI.out; omega))
      clear hj x0 x1 x2 x3 y0 y1 y2 y3 r1
      go_wp2_with fail
      refine (newInner_any (d := lv) (ks := acc) (ok := fun k => k < n0 ∨ mt + 1 ≤ k) HI.out.2.2.2.2 hal HGA.out (Kd.N_F HNK.out)).mono ?_
      rintro e W6 ⟨b, rfl, hbs, hbk, hbb⟩
      obtain ⟨S, hS⟩ : ∃ S, S = (acc.map (keysD lv)).flatten.length := ⟨_, rfl⟩
      rw [← hS] at hbk
      have KT6 := blk_below KT.out hbb
      obtain ⟨x0, x1, x2, x3, y0, y1, y2, y3⟩ := blk_cells4 KT6
      have b0 : W6.cell? ⟨b, 0, none⟩ = some (.int .i64 (S : Int)) := (blk_cell hbk 0).trans rfl
      have HKG6 := Aside0.mk (blk_below KG.out hbb)
      have HNK6 := Aside0.mk (Kd.N_below HNK.out hbb)
      have HS6 := Aside0.mk (HS0.out.below hbb (by have := HZ.out; have := HGT.out; omega))
      have HBK := Aside0.mk hbk
      have HBS := Aside0.mk (show W0.heap.size ≤ b by have := HWT.out; have := HZ.out; omega)
      have hz6 : g ≤ W6.heap.size := by have := HZ.out; have := HGT.out; have := hbb.size; omega
      have HZ6 := Aside0.mk hz6
      clear hbs hbk hbb hal KT6 hz6
      by_cases cs : (S : Int) = nd.f3
      case neg =>
       have csb : ((S : Int) != nd.f3) = true := by simp [cs]
       have hno : readD ns (f + 1) root next = none := by
        rw [HE.out, HQE.out]
        simp only
        rw [if_neg (by rw [← hS]; exact cs)]
       clear cs hS
       go_wp2_with fail
       go_quiet (fail)
       go_wp2_with fail
       refine bodyPost_ret (results_tt rfl _ _) rfl ?_
       exact ⟨by rw [← HW0.out]; exact HS6.out.below (pw_below_drewN (Below.refl _ _) _) HZ6.out, Or.inl ⟨hno, rfl⟩⟩
      case pos =>
       have csb : ((S : Int) != nd.f3) = false := by simp [cs]
       have hyes : readD ns (f + 1) root next = some (⟨false, [], acc⟩, lv + 1, nx) := by
        rw [HE.out, HQE.out]
        simp only
        rw [if_pos (by rw [← hS]; exact cs)]
       have HSS := Aside0.mk hS
       clear cs hS
       go_wp2_with fail
       go_quiet (fail)
       go_wp2_with fail
       refine bodyPost_ret (results_tt rfl _ _) rfl ?_
       have hbd := pw_below_drewN (Below.refl W6.heap.size W6) nq
       refine ⟨by rw [← HW0.out]; exact HS6.out.below hbd HZ6.out, Or.inr ⟨⟨false, [], acc⟩, lv + 1, nx, 79, b, hyes, ?_, ?_, blk_below HKG6.out hbd⟩⟩
       ·first
         | rfl
         | (rw [← HWL.out]; rfl)
         | (simp only [Int.natCast_add, Int.natCast_one]; rfl)
       ·refine kN_mkS (d := lv) (A := A7) (c := c7) ⟨rfl, rfl, ?_, (Kd.N_reads' HNK6.out).2.1⟩ (Or.inr (by rw [← HW0.out]; exact HBS.out)) (Kd.F_mono (Kd.F_below (Kd.N_F HNK6.out) hbd) (fun k hk => by rw [← HW0.out]; have := HWT.out; omega))
        have := blk_below HBK.out hbd
        rw [HSS.out] at this
        exact this
     case pos =>
      have cjb : decide (j < nd.f2.length) = true := decide_eq_true cj
      obtain ⟨mm, rfl⟩ : ∃ mm, gk = mm + 1 := ⟨gk - 1, by have := HI.out; omega⟩
      obtain ⟨ad2, hA2, hx⟩ := Kd.at_int (Kd.F_now FB.out) (j : Int) (by omega) (by omega)
      subst hA2
      simp only [Int.toNat_natCast] at hx
      have hqq := HQ.out
      rw [drop_rd _ _ cj, readL_cons] at hqq
      replace HQ := Aside0.mk hqq
      have p5 : (0 ≤ (j : Int)) = True := eq_true (by omega)
      have q5 : ((j : Int) < (nd.f2.length : Int)) = True := eq_true (by omega)
      have q6 : (j < nd.f2.length) = True := eq_true cj
      have CJ := Aside0.mk cj
      clear cj hqq
      by_cases ck : rd nd.f2 (j : Int) = nx
      case neg =>
       have ckb : (rd nd.f2 (j : Int) != nx) = true := by simp [ck]
       have hno : readD ns (f + 1) root next = none := by rw [HE.out, HQ.out, if_neg ck]
       go_wp2_with fail
       refine bodyPost_ret (results_tt rfl _ _) rfl ?_
       exact ⟨by rw [← HW0.out]; exact HS0.out, Or.inl ⟨hno, rfl⟩⟩
      case pos =>
      have ckb : (rd nd.f2 (j : Int) != nx) = false := by simp [ck]
      have hqq := HQ.out
      rw [if_pos ck] at hqq
      replace HQ := Aside0.mk hqq
      clear hqq
      go_wp2_with fail
      try rw [show wrap64 (dep + 1) = dep + 1 by have := HP.out; unfold wrap64; omega]
      refine (IH.out (dep + 1) (by have := HP.out; omega) (by have := HP.out; omega) false (decide_eq_false (by have := HP.out; omega)).symm nx HI.out.2.2.2.1 (some ad) c g wr HF.out HN0.out KG.out).mono ?_
      clear x0 x1 x2 x3 y0 y1 y2 y3 r1 hx ckb cjb p5 q5 q6
      rintro e W5 ⟨hs5, hend⟩
      replace KT := Aside0.mk ((hs5.k mt (by have := HZ.out; omega) (by have := HGT.out; omega)).trans KT.out)
      replace HF := Aside0.mk (Kd.F_step HF.out (fun k hk hlt => hs5.k k hlt (by have := HN0.out; omega)))
      replace FA := Aside0.mk (Kd.F_step FA.out (fun k hk hlt => hs5.k k hlt (by have := HN0.out; omega)))
      replace FB := Aside0.mk (Kd.F_step FB.out (fun k hk hlt => hs5.k k hlt (by have := HN0.out; omega)))
      replace HS0 := Aside0.mk (HS0.out.trans hs5)
      replace HS := Aside0.mk (HS.out.trans hs5)
      have HOLD := HNK
      have HZr := HZ
      replace HNK := Aside0.mk (Kd.N_step HNK.out (fun k hk hlt => hs5.k k hlt (by have := HN0.out; have := HGT.out; omega)))
      replace HZ := Aside0.mk (Nat.le_trans HZ.out hs5.b.size)
      obtain ⟨x0, x1, x2, x3, y0, y1, y2, y3⟩ := blk_cells4 KT.out
      rcases hend with ⟨hr, rfl⟩ | ⟨x, d, after, tp, b, hr, rfl, hK, hkg⟩
      ·have hno : readD ns (f + 1) root next = none := by rw [HE.out, HQ.out, hr]
       have hnn := eql_nn
       go_wp2_with fail
       go_quiet (fail)
       go_wp2_with fail
       refine bodyPost_ret (results_tt rfl _ _) rfl ?_
       exact ⟨by rw [← HW0.out]; exact HS0.out.below (pw_below_drewN (Below.refl _ _) _) (by have := HZ.out; have := HGT.out; omega), Or.inl ⟨hno, rfl⟩⟩
      ·obtain ⟨na, hna⟩ := Int.eq_ofNat_of_zero_le HI.out.2.2.2.1
       have hsd := readD_sound f false na x d after (by rw [← hna]; exact hr)
       have hdp := readD_depth f false _ _ _ _ hr
       have HGX := Aside0.mk hsd.1
       have HAF := Aside0.mk (show 0 ≤ after ∧ d ≤ 29 by refine ⟨by rw [hsd.2.2]; omega, ?_⟩; have := HP.out; omega)
       have hqq := HQ.out
       rw [hr] at hqq
       simp only at hqq
       have HQ2 := Aside0.mk hqq
       have HKX := Aside0.mk (Kd.FK_bound hK)
       have KG5 := Aside0.mk hkg
       clear hsd hdp hqq hr hK hkg hna HQ KG ck
       have hen : ∀ w, (binOp .eql 67 (.iface tp (.pointer (some ⟨b, 0, none⟩))) .nilIface).run Try.prog w = .ok (.bool false) w := fun w => eql_nil w tp _
       obtain ⟨sep, hsep⟩ : ∃ sep, sep = nd.f1.getD (j - 1) ByteArray.empty := ⟨_, rfl⟩
       rw [← hsep] at HQ2
       have HSEP := Aside0.mk hsep
       clear hsep
       obtain ⟨bad, hbad⟩ : ∃ bad, bad = decide (0 < j ∧ (d ≠ lv ∨ headK d x ≠ sep)) := ⟨_, rfl⟩
       unfold ifP
       go_upto_region 19 with (fail)
       go_cut [141] (fun v141 wc => v141 = .bool bad ∧ Aside0 (Below W5.heap.size W5 wc))
       case first =>
        by_cases c0 : 0 < j
        case neg =>
         have d0 : decide (0 < j) = false := decide_eq_false c0
         have d0b : decide (0 < (j : Int)) = false := decide_eq_false (by omega)
         have hb2 : bad = false := by rw [hbad]; exact decide_eq_false (fun h => c0 h.1)
         subst hb2
         clear c0 hbad
         go_quiet (fail)
         go_wp2_with fail
         go_meet
         case rel => exact ⟨rfl, ⟨pw_below_drewN (Below.refl _ _) _⟩⟩
        case pos =>
         have d0 : decide (0 < j) = true := decide_eq_true c0
         have d0b : decide (0 < (j : Int)) = true := decide_eq_true (by omega)
         by_cases cd : d = lv
         case neg =>
           have d1 : ((d : Int) != (lv : Int)) = true := by rw [bne_iff_ne]; omega
           have hb2 : bad = true := by rw [hbad]; exact decide_eq_true ⟨c0, Or.inl cd⟩
           subst hb2
           clear c0 hbad cd
           go_quiet (fail)
           go_wp2_with fail
           go_meet
           case rel => exact ⟨rfl, ⟨pw_below_drewN (Below.refl _ _) _⟩⟩
         case pos =>
           subst cd
           have d1 : ((d : Int) != (d : Int)) = false := by simp
           have hjl : j - 1 < nd.f1.length := by have := HC.out; have := CJ.out; omega
           obtain ⟨adA, hAA, hxs⟩ := Kd.at_string (Kd.F_now FA.out) ((j - 1 : Nat) : Int) (by omega) (by omega)
           subst hAA
           rw [rdb_at _ _ hjl] at hxs
           simp only [Int.toNat_natCast] at hxs
           have hse : sep = nd.f1[j - 1] := by rw [HSEP.out, List.getD_eq_getElem?_getD, List.getElem?_eq_getElem hjl]; rfl
           rw [← hse] at hxs
           have HXS := Aside0.mk hxs
           have s1 : IntKind.i64.wrap ((j : Int) - 1) = (j : Int) - 1 := by rw [i64_w]; have := CJ.out; have := HC.out; unfold wrap64; omega
           have s2 : 1 ≤ (j : Int) := by omega
           have s2b : 1 ≤ j := by omega
           have s3 : ((j : Int) - 1).toNat = j - 1 := by omega
           have s4 : (j : Int) - 1 < (nd.f1.length : Int) := by omega
           obtain ⟨fl, hm, hcl⟩ := node_least HKX.out HGX.out
           have HM := Aside0.mk hm
           have hne : (headK d x).toList = sep.toList ↔ headK d x = sep := ⟨bs_inj, fun h => by rw [h]⟩
           have HCL := Aside0.mk hcl
           clear hse hxs hm hcl
           refine start_ (n := 22) (S := fun w' => w'.heap[mt]? = some (.cells #[.bool nd.f0, .slice (some adA) nd.f1.length c1', .slice (some ad2) nd.f2.length c2', .int .i64 nd.f3] 90 (0, 0)) ∧ w'.cell? (adA.add (j - 1)) = some (.string sep)) (ds := []) #[false, false, false, false, false, false, false, false, false, false, false, false, false, false, false, false, false, false, false, false, false, false] (by kernel_rfl) rfl rfl ⟨KT.out, HXS.out⟩ (fun hHeld => ?_); refine with_tabW nod.gtab19 nod.gbits19 (fun HT_ HW_ => ?_)
           have hbd : Below W5.heap.size W5 W5.drew := below_drew (Below.refl _ _)
           have HB5 := Aside0.mk hbd
           have KT5 := Aside0.mk (blk_below KT.out hbd)
           have HXS5 := Aside0.mk (cell_stay hbd HXS.out)
           have HKX5 := Aside0.mk (Kd.FK_below HKX.out hbd)
           obtain ⟨fl2, hm2, hcl2⟩ := node_least HKX5.out HGX.out
           have HM2 := Aside0.mk hm2
           have HCL2 := Aside0.mk hcl2
           clear hbd x0 x1 x2 x3 y0 y1 y2 y3 hm2 hcl2
           generalize W5.drew = W6 at *
           refine pure_ (i := 0) (N := some 120) (v := ?_) (a' := ?_) #[true, false, false, false, false, false, false, false, false, false, false, false, false, false, false, false, false, false, false, false, false, false] rfl rfl (any_of HT_.out (by kernel_rfl)) (fun _ _ _ h => h) (Or.inl ⟨by rfl, ?_⟩) ?_ ?_
           rotate_left
           · intro w'
             go_simp
             with_reducible rfl
           rotate_left
           · simp only [Act.put, List.setIfInBounds_toArray, List.set_cons_zero, List.set_cons_succ, i64_w, i32_w]
             rfl
           refine pure_ (i := 1) (N := some 121) (v := ?_) (a' := ?_) #[true, true, false, false, false, false, false, false, false, false, false, false, false, false, false, false, false, false, false, false, false, false] rfl rfl (any_of HT_.out (by kernel_rfl)) (fun _ _ _ h => h) (Or.inl ⟨by rfl, ?_⟩) ?_ ?_
           rotate_left
           · intro w'
             go_simp
             with_reducible rfl
           rotate_left
           · simp only [Act.put, List.setIfInBounds_toArray, List.set_cons_zero, List.set_cons_succ, i64_w, i32_w]
             rfl
           refine pure_ (i := 2) (N := some 122) (v := ?_) (a' := ?_) #[true, true, true, false, false, false, false, false, false, false, false, false, false, false, false, false, false, false, false, false, false, false] rfl rfl (any_of HT_.out (by kernel_rfl)) (fun _ _ _ h => h) (Or.inl ⟨by rfl, ?_⟩) ?_ ?_
           rotate_left
           · intro w'
             go_simp
             with_reducible rfl
           rotate_left
           · simp only [Act.put, List.setIfInBounds_toArray, List.set_cons_zero, List.set_cons_succ, i64_w, i32_w]
             rfl
           refine pure_ (i := 3) (N := some 123) (v := ?_) (a' := ?_) #[true, true, true, true, false, false, false, false, false, false, false, false, false, false, false, false, false, false, false, false, false, false] rfl rfl (any_of HT_.out (by kernel_rfl)) (fun _ _ _ h => h) (Or.inl ⟨by rfl, ?_⟩) ?_ ?_
           rotate_left
           · intro w'
             go_simp
             with_reducible rfl
           rotate_left
           · simp only [Act.put, List.setIfInBounds_toArray, List.set_cons_zero, List.set_cons_succ, i64_w, i32_w]
             rfl
           refine pure_ (i := 4) (N := some 124) (v := ?_) (a' := ?_) #[true, true, true, true, true, false, false, false, false, false, false, false, false, false, false, false, false, false, false, false, false, false] rfl rfl (any_of HT_.out (by kernel_rfl)) (fun _ _ _ h => h) (Or.inl ⟨by rfl, ?_⟩) ?_ ?_
           rotate_left
           · intro w'
             go_simp
             with_reducible rfl
           rotate_left
           · simp only [Act.put, List.setIfInBounds_toArray, List.set_cons_zero, List.set_cons_succ, i64_w, i32_w]
             rfl
           refine pure_ (i := 5) (N := some 125) (v := ?_) (a' := ?_) #[true, true, true, true, true, true, false, false, false, false, false, false, false, false, false, false, false, false, false, false, false, false] rfl rfl (any_of HT_.out (by kernel_rfl)) (fun _ _ _ h => h) (Or.inl ⟨by rfl, ?_⟩) ?_ ?_
           rotate_left
           · intro w'
             go_simp
             with_reducible rfl
           rotate_left
           · simp only [Act.put, List.setIfInBounds_toArray, List.set_cons_zero, List.set_cons_succ, i64_w, i32_w]
             rfl
           refine pure_ (i := 6) (N := some 126) (v := ?_) (a' := ?_) #[true, true, true, true, true, true, true, false, false, false, false, false, false, false, false, false, false, false, false, false, false, false] rfl rfl (any_of HT_.out (by kernel_rfl)) (fun _ _ _ h => h) (Or.inl ⟨by rfl, ?_⟩) ?_ ?_
           rotate_left
           · intro w'
             go_simp
             with_reducible rfl
           rotate_left
           · simp only [Act.put, List.setIfInBounds_toArray, List.set_cons_zero, List.set_cons_succ, i64_w, i32_w]
             rfl
           refine pure_ (i := 7) (N := some 127) (v := ?_) (a' := ?_) #[true, true, true, true, true, true, true, true, false, false, false, false, false, false, false, false, false, false, false, false, false, false] rfl rfl (any_of HT_.out (by kernel_rfl)) (fun _ _ _ h => h) (Or.inl ⟨by rfl, ?_⟩) ?_ ?_
           rotate_left
           · intro w'
             go_simp
             with_reducible rfl
           rotate_left
           · simp only [Act.put, List.setIfInBounds_toArray, List.set_cons_zero, List.set_cons_succ, i64_w, i32_w]
             rfl
           refine pure_ (i := 8) (N := some 128) (v := ?_) (a' := ?_) #[true, true, true, true, true, true, true, true, true, false, false, false, false, false, false, false, false, false, false, false, false, false] rfl rfl (any_of HT_.out (by kernel_rfl)) (fun _ _ _ h => h) (Or.inl ⟨by rfl, ?_⟩) ?_ ?_
           rotate_left
           · intro w'
             go_simp
             with_reducible rfl
           rotate_left
           · simp only [Act.put, List.setIfInBounds_toArray, List.set_cons_zero, List.set_cons_succ, i64_w, i32_w]
             rfl
           refine pure_ (i := 9) (N := some 129) (v := ?_) (a' := ?_) #[true, true, true, true, true, true, true, true, true, true, false, false, false, false, false, false, false, false, false, false, false, false] rfl rfl (any_of HT_.out (by kernel_rfl)) (fun _ _ _ h => h) (Or.inl ⟨by rfl, ?_⟩) ?_ ?_
           rotate_left
           · intro w'
             go_simp
             with_reducible rfl
           rotate_left
           · simp only [Act.put, List.setIfInBounds_toArray, List.set_cons_zero, List.set_cons_succ, i64_w, i32_w]
             rfl
           refine pure_ (i := 10) (N := some 130) (v := ?_) (a' := ?_) #[true, true, true, true, true, true, true, true, true, true, true, false, false, false, false, false, false, false, false, false, false, false] rfl rfl (any_of HT_.out (by kernel_rfl)) (fun _ _ _ h => h) (Or.inl ⟨by rfl, ?_⟩) ?_ ?_
           rotate_left
           · intro w'
             go_simp
             with_reducible rfl
           rotate_left
           · simp only [Act.put, List.setIfInBounds_toArray, List.set_cons_zero, List.set_cons_succ, i64_w, i32_w]
             rfl
           refine pure_ (i := 12) (N := some 132) (v := ?_) (a' := ?_) #[true, true, true, true, true, true, true, true, true, true, true, false, true, false, false, false, false, false, false, false, false, false] rfl rfl (any_of HT_.out (by kernel_rfl)) (fun _ _ _ h => h) (Or.inl ⟨by rfl, ?_⟩) ?_ ?_
           rotate_left
           · intro w'
             go_simp
             with_reducible rfl
           rotate_left
           · simp only [Act.put, List.setIfInBounds_toArray, List.set_cons_zero, List.set_cons_succ, i64_w, i32_w]
             rfl
           refine take_ (i := 13) (N := some 133) (v := ?_) (a' := ?_) #[true, true, true, true, true, true, true, true, true, true, true, false, true, true, false, false, false, false, false, false, false, false] rfl rfl (take_ofW HT_.out HW_.out (by kernel_rfl)) (fun _ _ _ h => h) (Or.inl ⟨by rfl, ?_⟩) hHeld ?_ ?_
           rotate_left
           · rintro w' ⟨s0, s1⟩
             obtain ⟨x0, x1, x2, x3, y0, y1, y2, y3⟩ := blk_cells4 s0
             go_simp
             with_reducible rfl
           rotate_left
           · simp only [Act.put, List.setIfInBounds_toArray, List.set_cons_zero, List.set_cons_succ, i64_w, i32_w]
             rfl
           refine pure_ (i := 14) (N := some 134) (v := ?_) (a' := ?_) #[true, true, true, true, true, true, true, true, true, true, true, false, true, true, true, false, false, false, false, false, false, false] rfl rfl (any_of HT_.out (by kernel_rfl)) (fun _ _ _ h => h) (Or.inl ⟨by rfl, ?_⟩) ?_ ?_
           rotate_left
           · intro w'
             go_simp
             with_reducible rfl
           rotate_left
           · simp only [Act.put, List.setIfInBounds_toArray, List.set_cons_zero, List.set_cons_succ, i64_w, i32_w]
             rfl
           refine pure_ (i := 15) (N := some 135) (v := ?_) (a' := ?_) #[true, true, true, true, true, true, true, true, true, true, true, false, true, true, true, true, false, false, false, false, false, false] rfl rfl (any_of HT_.out (by kernel_rfl)) (fun _ _ _ h => h) (Or.inl ⟨by rfl, ?_⟩) ?_ ?_
           rotate_left
           · intro w'
             go_simp
             with_reducible rfl
           rotate_left
           · simp only [Act.put, List.setIfInBounds_toArray, List.set_cons_zero, List.set_cons_succ, i64_w, i32_w]
             rfl
           refine pure_ (i := 16) (N := some 136) (v := ?_) (a' := ?_) #[true, true, true, true, true, true, true, true, true, true, true, false, true, true, true, true, true, false, false, false, false, false] rfl rfl (any_of HT_.out (by kernel_rfl)) (fun _ _ _ h => h) (Or.inl ⟨by rfl, ?_⟩) ?_ ?_
           rotate_left
           · intro w'
             go_simp
             with_reducible rfl
           rotate_left
           · simp only [Act.put, List.setIfInBounds_toArray, List.set_cons_zero, List.set_cons_succ, i64_w, i32_w]
             rfl
           refine take_ (i := 17) (N := some 137) (v := ?_) (a' := ?_) #[true, true, true, true, true, true, true, true, true, true, true, false, true, true, true, true, true, true, false, false, false, false] rfl rfl (take_ofW HT_.out HW_.out (by kernel_rfl)) (fun _ _ _ h => h) (Or.inl ⟨by rfl, ?_⟩) hHeld ?_ ?_
           rotate_left
           · rintro w' ⟨s0, s1⟩
             go_simp
             with_reducible rfl
           rotate_left
           · simp only [Act.put, List.setIfInBounds_toArray, List.set_cons_zero, List.set_cons_succ, i64_w, i32_w]
             rfl
           refine one_ (i := 11) (N := some 131) #[true, true, true, true, true, true, true, true, true, true, true, true, true, true, true, true, true, true, false, false, false, false] rfl rfl (one_of HT_.out (by kernel_rfl)) (by decide) (fun K hK => ?_)
           refine call_ fl2 #[.pointer (some ⟨b, 0, none⟩)] (by rfl) rfl (run_invoke rfl rfl (HM2.out _)) ?_
           refine HCL2.out.mono ?_
           rintro e We ⟨rfl, rfl⟩
           refine ⟨_, rfl, ?_⟩
           refine hK.out _ _ ⟨KT5.out, HXS5.out⟩ (fun hHeld => ?_)
           clear hK K
           refine norm_ (a' := ?_) ?_ ?_
           rotate_left
           · show Act.put _ (some 131) _ = _
             simp only [Act.put, List.setIfInBounds_toArray, List.set_cons_zero, List.set_cons_succ, i64_w, i32_w]
             rfl
           refine pure_ (i := 18) (N := some 138) (v := ?_) (a' := ?_) #[true, true, true, true, true, true, true, true, true, true, true, true, true, true, true, true, true, true, true, false, false, false] rfl rfl (any_of HT_.out (by kernel_rfl)) (fun _ _ _ h => h) (Or.inl ⟨by rfl, ?_⟩) ?_ ?_
           rotate_left
           · intro w'
             go_simp
             with_reducible rfl
           rotate_left
           · simp only [Act.put, List.setIfInBounds_toArray, List.set_cons_zero, List.set_cons_succ, i64_w, i32_w]
             rfl
           refine pure_ (i := 19) (N := some 139) (v := ?_) (a' := ?_) #[true, true, true, true, true, true, true, true, true, true, true, true, true, true, true, true, true, true, true, true, false, false] rfl rfl (any_of HT_.out (by kernel_rfl)) (fun _ _ _ h => h) (Or.inl ⟨by rfl, ?_⟩) ?_ ?_
           rotate_left
           · intro w'
             go_simp
             with_reducible rfl
           rotate_left
           · simp only [Act.put, List.setIfInBounds_toArray, List.set_cons_zero, List.set_cons_succ, i64_w, i32_w]
             rfl
           refine pure_ (i := 20) (N := some 140) (v := ?_) (a' := ?_) #[true, true, true, true, true, true, true, true, true, true, true, true, true, true, true, true, true, true, true, true, true, false] rfl rfl (any_of HT_.out (by kernel_rfl)) (fun _ _ _ h => h) (Or.inl ⟨by rfl, ?_⟩) ?_ ?_
           rotate_left
           · intro w'
             go_simp
             with_reducible rfl
           rotate_left
           · simp only [Act.put, List.setIfInBounds_toArray, List.set_cons_zero, List.set_cons_succ, i64_w, i32_w]
             rfl
           refine pure_ (i := 21) (N := some 141) (v := ?_) (a' := ?_) #[true, true, true, true, true, true, true, true, true, true, true, true, true, true, true, true, true, true, true, true, true, true] rfl rfl (any_of HT_.out (by kernel_rfl)) (fun _ _ _ h => h) (Or.inl ⟨by rfl, ?_⟩) ?_ ?_
           rotate_left
           · intro w'
             go_simp
             with_reducible rfl
           rotate_left
           · simp only [Act.put, List.setIfInBounds_toArray, List.set_cons_zero, List.set_cons_succ, i64_w, i32_w]
             rfl
           refine done_ (done_of HT_.out (by kernel_rfl)) ?_
           go_wp2_with fail
           go_meet
           case rel =>
             refine ⟨?_, HB5⟩
             rw [hbad]
             first
              | (congr 1; rw [Bool.eq_iff_iff]; simp [c0, hne]; done)
              | (congr 1; simp [c0, hne]; done)
              | (trace_state; sorry)
       case rest =>
        obtain ⟨rfl, HBC⟩ := hcut
        replace KT := Aside0.mk (blk_below KT.out HBC.out)
        replace KG5 := Aside0.mk (blk_below KG5.out HBC.out)
        have HS9 := Aside0.mk (HS.out.below HBC.out (by have := HZ.out; have := HGT.out; omega))
        have HS0' := Aside0.mk (HS0.out.below HBC.out (by have := HZ.out; have := HGT.out; omega))
        have HNK9 := Aside0.mk (Kd.N_below HNK.out HBC.out)
        have HKX9 := Aside0.mk (Kd.FK_below HKX.out HBC.out)
        replace HZ := Aside0.mk (Nat.le_trans HZ.out (below_sz HBC.out))
        clear HF FA FB HS HS0 HNK HKX HBC IH x0 x1 x2 x3 y0 y1 y2 y3 hen
        rcases hbb : bad with _ | _
        case true =>
         rw [hbb] at hbad
         have hno : readD ns (f + 1) root next = none := by rw [HE.out, HQ2.out, if_pos (of_decide_eq_true hbad.symm)]
         clear hbad hbb
         go_wp2_with fail
         refine bodyPost_ret (results_tt rfl _ _) rfl ?_
         exact ⟨by rw [← HW0.out]; exact HS0'.out, Or.inl ⟨hno, rfl⟩⟩
        case false =>
         rw [hbb] at hbad
         have hng := of_decide_eq_false hbad.symm
         have HQ3 := Aside0.mk (show rl = readL (readD ns f false) nd.f1 (nd.f2.drop (j + 1)) (j + 1) d after (acc ++ [x]) by rw [HQ2.out, if_neg hng])
         have hlv : 0 < j → d = lv := fun h0 => Decidable.byContradiction fun hne => hng ⟨h0, Or.inl hne⟩
         have HND9 := Aside0.mk (show Kd.N (kN d) 67 wc (mt + 1) (fun k => k < n0 ∨ mt + 1 ≤ k) (.slice A7 acc.length c7) acc by
           rcases Nat.eq_zero_or_pos j with h0 | h0
           · have ha : acc = [] := List.length_eq_zero_iff.1 (by have := HI.out; omega)
             obtain ⟨rfl, rfl⟩ := HJ0.out h0
             subst ha
             exact Kd.N_nil _ _ _ _ _
           · rw [hlv h0]; exact HNK9.out)
         have HGA2 := Aside0.mk (show ∀ k ∈ acc ++ [x], goodD d false k by
           intro k hk
           rcases List.mem_append.1 hk with hk | hk
           · have h0 : 0 < j := by have := List.length_pos_of_mem hk; have := HI.out; omega
             rw [hlv h0]
             exact HGA.out k hk
           · rw [List.mem_singleton.1 hk]; exact HGX.out)
         have hfp : ∀ k, ((k < n0 ∨ wr.heap.size ≤ k) ∧ k < W5.heap.size) → (k < n0 ∨ mt + 1 ≤ k) ∧ some k ≠ (Value.slice A7 acc.length c7).ownBlock := fun k hk => ⟨by have := hk.1; have := HZr.out; omega, fun he => by
           have h1 := Kd.N_lt HOLD.out k he.symm
           have h2 := Kd.N_base HOLD.out k he.symm
           have := HN0.out
           have := HGT.out
           omega⟩
         have HFP := Aside0.mk hfp
         have HW9 := Aside0.mk (w64s j (by have := CJ.out; have := HC.out; omega))
         clear hbad hbb hng hlv hfp HNK9 HOLD HGA HJ0 HQ2
         go_wp2_with ((with_reducible refine gate_builtin (b := .append) (xs := #[.tmp 143, .tmp 145]) rfl ?_); at_builtin; refine Kd.N_append (kN d) (w0 := wc) (mt + 1) rfl (.tmp 143) (.tmp 145) 77 67 .nilIface 16 rfl Try.underlying77 (by rw [kN_sz]; kernel_rfl) (by rw [kN_sz]; rfl) (by rw [kN_sz]; decide) (by omega) (.slice A7 acc.length c7) acc x [ifP tp b] (fun k => k < n0 ∨ mt + 1 ≤ k) (fun k => (k < n0 ∨ wr.heap.size ≤ k) ∧ k < W5.heap.size) rfl rfl ?aP HFP.out ?aF ?aO ?aB ?aS ?aL ?_; (case aP => exact HKX9.out); (case aB => exact Below.refl _ _); (case aF => exact fun k hk => Or.inr (Nat.le_trans HZ.out hk)); (case aO => exact HND9.out); (case aS => exact HZ.out); (case aL => have := HI.out; have := CJ.out; have := HC.out; omega); intro v146 w9 ho hb hg hat; obtain ⟨A9, c9, rfl⟩ := Kd.N_slice ho; have HN9 := Aside0.mk ho; have KG9 := Aside0.mk ((hb.block g (by have := HGT.out; omega)).trans KG5.out); have HSN := Aside0.mk (show NS g W3 w9 from ⟨below_same HS9.out.b (below_less hb (by have := HGT.out; omega)), fun k hk hne => (hb.block k (by rw [← HZ3.out]; exact hk)).trans (HS9.out.k k hk hne)⟩); clear ho hb hg hat)
         go_roundg mm
         case measure => omega
         case rel => exact ⟨j + 1, acc ++ [x], d, after, A9, c9, by rw [List.length_append]; rfl, rfl, by first | (rw [HW9.out]; done) | (simp; done), ⟨by have := HI.out; have := CJ.out; have := HAF.out; rw [List.length_append, List.length_singleton]; omega⟩, HQ3, HGA2, ⟨fun h => absurd h (Nat.succ_ne_zero j)⟩, KG9, HN9, HSN⟩

/-! ### zx_walk: a text by hand -/
-- uses blk_cells3 at_N kN_open0
/-- impl's walk over a tree: the closure keeps J; it is told the keys in order until it says no. -/
def runK {σ : Type} (step : σ → ByteArray → σ × Bool) : List ByteArray → σ → σ × Bool
 | [], s => (s, true)
 | k :: ks, s => if (step s k).2 = true then runK step ks (step s k).1 else ((step s k).1, false)
theorem runK_append {σ : Type} (step : σ → ByteArray → σ × Bool) : ∀ (ks ls : List ByteArray) (s : σ), runK step (ks ++ ls) s = if (runK step ks s).2 = true then runK step ls (runK step ks s).1 else ((runK step ks s).1, false)
 | [], ls, s => by simp [runK]
 | k :: ks, ls, s => by
   simp only [List.cons_append, runK]
   split
   ·exact runK_append step ks ls _
   ·rfl
theorem ta_00 (p : Value) (w : World) : (Instr.typeAssert (.iface 58 p) 67 58 true).run Try.prog w = .ok (.tuple #[p, .bool true]) w := by kernel_rfl
theorem ta_S0 (p : Value) (w : World) : (Instr.typeAssert (.iface 79 p) 67 58 true).run Try.prog w = .ok (.tuple #[.pointer none, .bool false]) w := by kernel_rfl
theorem ta_SS (p : Value) (w : World) : (Instr.typeAssert (.iface 79 p) 67 79 true).run Try.prog w = .ok (.tuple #[p, .bool true]) w := by kernel_rfl
/-- A call of a closure that is a value. -/
theorem run_closure {P : Program} {oi : Oper} {a : Act} {w : World} {x : Operand} {ars : Array Operand} {ts : Array TypeId} {f : FuncId} {fn : Func} {cap : Array Value} (hf : P.funcs[f]? = some fn) (hname : (fn.name == "runtime.NumGoroutine") = false) (hb : fn.body.isSome = true) (args : Array Value)
  (hop : oi.op = .call { callee := .value x, args := ars, argTypes := ts }) (hx : a.eval x = .func (.func f) #[] cap) (hargs : ars.map a.eval = args) : (execOp a.eval oi).run P w = .ok (.enter f (args ++ cap)) w := by
 have he := enters_ hf hname hb (args ++ cap) w
 unfold execOp
 simp [hop, resolve, Deferred.ofValue, invoke, hx, hargs, he]
structure WJ {σ : Type} (J : σ → World → Prop) (step : σ → ByteArray → σ × Bool) (fid : FuncId) (cap : Array Value) (W0 : World) (okT : Nat → Prop) : Prop where
 fn : ∃ fn, Try.prog.funcs[fid]? = some fn ∧ (fn.name == "runtime.NumGoroutine") = false ∧ fn.body.isSome = true
 call : ∀ (s : σ) (k : ByteArray) (W : World), J s W → Calls Try.prog fid (#[.string k] ++ cap) W fun e W' => e = .returned (.bool (step s k).2) ∧ J (step s k).1 W'
 kept : ∀ (s : σ) (W : World), J s W → ∀ k, okT k → k < W0.heap.size → W.heap[k]? = W0.heap[k]?
set_option maxHeartbeats 8000000 in
set_option maxRecDepth 100000 in
theorem walk_any {σ : Type} {J : σ → World → Prop} {step : σ → ByteArray → σ × Bool} {fid : FuncId} {cap : Array Value} {W0 : World} {okT : Nat → Prop} (H : WJ J step fid cap W0 okT) : ∀ (d : Nat) (t : S56) (v : Value) (_ : Kd.FK (kN d) W0 okT t [v]) (s : σ) (W : World) (_ : J s W),
   Calls Try.prog 49 #[v, .func (.func fid) #[] cap] W fun e W' => e = .returned (.bool (runK step (keysD d t) s).2) ∧ J (runK step (keysD d t) s).1 W' := by
 intro d
 induction d with
 | zero =>
   intro t v hK s W hJ
   obtain ⟨b, A, c, ke, kl, kb, kF⟩ := kN_open0 hK
   have hv : v = ifP 58 b := by simpa using ke
   subst hv
   unfold ifP
   have hbl := (Array.getElem?_eq_some_iff.1 kl.2.2.1).1
   have x1 : W.cell? ⟨b, 1, none⟩ = some (.slice A t.f1.length c) := (blk_cell ((H.kept s W hJ b kb hbl).trans kl.2.2.1) 1).trans rfl
   have hu2 := Try.underlying93
   have hta := ta_00
   have HF := Aside0.mk kF
   have HJ := Aside0.mk hJ
   have HM := Aside0.mk (Kd.F_max kF)
   clear ke kl kb kF hJ hK hbl
   go_enter Try.func49, Try.ntmps49
   go_wp2_with fail
   go_loopg [7, 20] t.f1.length (fun kq v7 v20 w' => ∃ (j : Nat) (s' : σ), v20 = .int .i64 (j : Int) ∧ Aside0 (j ≤ t.f1.length ∧ t.f1.length ≤ kq + j) ∧ Aside0 (runK step t.f1 s = runK step (t.f1.drop j) s') ∧ Aside0 (J s' w'))
   case atStart => exact ⟨0, s, rfl, ⟨by omega, by omega⟩, ⟨rfl⟩, HJ⟩
   case round =>
    clear HJ x1
    obtain ⟨j, s', rfl, HI, HQ, HJ⟩ := hrel
    by_cases cj : j < t.f1.length
    case neg =>
     have cjb : decide (j < t.f1.length) = false := decide_eq_false cj
     have hj : j = t.f1.length := by have := HI.out; omega
     have HE := Aside0.mk (show runK step (keysD 0 t) s = (s', true) by
      show runK step t.f1 s = _
      rw [HQ.out, hj, List.drop_length]
      rfl)
     clear hj cj
     go_wp2_with fail
     go_ret
     rw [HE.out]
     exact ⟨rfl, HJ.out⟩
    case pos =>
     have cjb : decide (j < t.f1.length) = true := decide_eq_true cj
     obtain ⟨mm, rfl⟩ : ∃ mm, gk = mm + 1 := ⟨gk - 1, by have := HI.out; omega⟩
     obtain ⟨ad, rfl, hx⟩ := Kd.at_string (Kd.F_now (Kd.F_step HF.out (H.kept s' wr HJ.out))) (j : Int) (by omega) (by omega)
     rw [rdb_at _ _ cj] at hx
     simp only [Int.toNat_natCast] at hx
     have p5 : (0 ≤ (j : Int)) = True := eq_true (by omega)
     have q5 : ((j : Int) < (t.f1.length : Int)) = True := eq_true (by omega)
     have q6 : (j < t.f1.length) = True := eq_true cj
     have HQ2 := Aside0.mk (show runK step t.f1 s = if (step s' (t.f1[j]'cj)).2 = true then runK step (t.f1.drop (j + 1)) (step s' (t.f1[j]'cj)).1 else ((step s' (t.f1[j]'cj)).1, false) by
      rw [HQ.out, List.drop_eq_getElem_cons cj]
      rfl)
     have HW9 := Aside0.mk (w64m j (by have := HM.out; omega))
     obtain ⟨key, hkey⟩ : ∃ key, key = t.f1[j]'cj := ⟨_, rfl⟩
     rw [← hkey] at hx HQ2
     clear hkey
     obtain ⟨q, hq⟩ : ∃ q, q = step s' key := ⟨_, rfl⟩
     have HCL := Aside0.mk (H.call s' key wr HJ.out)
     rw [← hq] at HQ2 HCL
     clear hq
     obtain ⟨s2, ans⟩ := q
     obtain ⟨fn, hf, hname, hbody⟩ := H.fn
     rcases ans with _ | _
     case false =>
      have HE := Aside0.mk (show runK step (keysD 0 t) s = (s2, false) from HQ2.out)
      go_wp2_with ((with_reducible refine gate_dst (N := 26) rfl ?_); refine goesI_ (some 26) rfl rfl fid (#[.string key] ++ cap) (run_closure hf hname hbody #[.string key] rfl rfl (by (try simp only [List.map_toArray, List.map_cons, List.map_nil]); first | done | rfl)) ?_; refine HCL.out.mono ?_; rintro e W9 ⟨rfl, hj9⟩; refine ⟨_, rfl, ?_⟩; have HJ9 := Aside0.mk hj9; clear hj9)
      go_ret
      rw [HE.out]
      exact ⟨rfl, HJ9.out⟩
     case true =>
      have HE := Aside0.mk (show runK step t.f1 s = runK step (t.f1.drop (j + 1)) s2 from HQ2.out)
      go_wp2_with ((with_reducible refine gate_dst (N := 26) rfl ?_); refine goesI_ (some 26) rfl rfl fid (#[.string key] ++ cap) (run_closure hf hname hbody #[.string key] rfl rfl (by (try simp only [List.map_toArray, List.map_cons, List.map_nil]); first | done | rfl)) ?_; refine HCL.out.mono ?_; rintro e W9 ⟨rfl, hj9⟩; refine ⟨_, rfl, ?_⟩; have HJ9 := Aside0.mk hj9; clear hj9)
      go_roundg mm
      case measure => omega
      case rel => exact ⟨j + 1, s2, by first | (rw [HW9.out]; done) | (simp; done), ⟨by have := HI.out; omega⟩, HE, HJ9⟩
 | succ d ih =>
   intro t v hK s W hJ
   obtain ⟨b, A, c, ke, kl, kb, kF⟩ := kN_openS hK
   have hv : v = ifP 79 b := by simpa using ke
   subst hv
   unfold ifP
   have hbl := (Array.getElem?_eq_some_iff.1 kl.2.2.1).1
   have x1 : W.cell? ⟨b, 1, none⟩ = some (.slice A t.f2.length c) := (blk_cell ((H.kept s W hJ b kb hbl).trans kl.2.2.1) 1).trans rfl
   have hu2 := Try.underlying87
   have hta := ta_S0
   have hta2 := ta_SS
   have HF := Aside0.mk kF
   have HJ := Aside0.mk hJ
   have HM := Aside0.mk (Kd.F_max kF)
   have IH := Aside0.mk ih
   clear ke kl kb kF hJ hK hbl ih
   go_enter Try.func49, Try.ntmps49
   go_wp2_with fail
   go_loopg [10, 37] t.f2.length (fun kq v10 v37 w' => ∃ (j : Nat) (s' : σ), v37 = .int .i64 (j : Int) ∧ Aside0 (j ≤ t.f2.length ∧ t.f2.length ≤ kq + j) ∧ Aside0 (runK step (keysD (d + 1) t) s = runK step (((t.f2.drop j).map (keysD d)).flatten) s') ∧ Aside0 (J s' w'))
   case atStart => exact ⟨0, s, rfl, ⟨by omega, by omega⟩, ⟨rfl⟩, HJ⟩
   case round =>
    clear HJ x1
    obtain ⟨j, s', rfl, HI, HQ, HJ⟩ := hrel
    by_cases cj : j < t.f2.length
    case neg =>
     have cjb : decide (j < t.f2.length) = false := decide_eq_false cj
     have hj : j = t.f2.length := by have := HI.out; omega
     have HE := Aside0.mk (show runK step (keysD (d + 1) t) s = (s', true) by
      rw [HQ.out, hj, List.drop_length]
      rfl)
     clear hj cj
     go_wp2_with fail
     go_ret
     rw [HE.out]
     exact ⟨rfl, HJ.out⟩
    case pos =>
     have cjb : decide (j < t.f2.length) = true := decide_eq_true cj
     obtain ⟨mm, rfl⟩ : ∃ mm, gk = mm + 1 := ⟨gk - 1, by have := HI.out; omega⟩
     obtain ⟨ad, v, rfl, hx, hK, hkb⟩ := at_N HF.out j cj
     rw [rd56_at _ _ cj] at hK
     have HQ2 := Aside0.mk (show runK step (keysD (d + 1) t) s = if (runK step (keysD d (t.f2[j]'cj)) s').2 = true then runK step (((t.f2.drop (j + 1)).map (keysD d)).flatten) (runK step (keysD d (t.f2[j]'cj)) s').1 else ((runK step (keysD d (t.f2[j]'cj)) s').1, false) by
      rw [HQ.out, List.drop_eq_getElem_cons cj, List.map_cons, List.flatten_cons, runK_append])
     have HCL := Aside0.mk (IH.out (t.f2[j]'cj) v hK s' wr HJ.out)
     obtain ⟨q, hq⟩ : ∃ q, q = runK step (keysD d (t.f2[j]'cj)) s' := ⟨_, rfl⟩
     rw [← hq] at HQ2 HCL
     have hxw : wr.cell? (ad.add j) = some v := by
      have := H.kept s' wr HJ.out (ad.add j).block hkb (World.block_lt_of_cell? W0 _ hx)
      simpa [World.cell?, this] using hx
     clear hq hx
     obtain ⟨s2, ans⟩ := q
     have p5 : (0 ≤ (j : Int)) = True := eq_true (by omega)
     have q5 : ((j : Int) < (t.f2.length : Int)) = True := eq_true (by omega)
     have q6 : (j < t.f2.length) = True := eq_true cj
     have HW9 := Aside0.mk (w64m j (by have := HM.out; omega))
     rcases ans with _ | _
     case false =>
      have HE := Aside0.mk (show runK step (keysD (d + 1) t) s = (s2, false) from HQ2.out)
      go_wp2_with fail
      refine HCL.out.mono ?_
      rintro e W9 ⟨rfl, hj9⟩
      have HJ9 := Aside0.mk hj9
      clear hj9
      go_wp2_with fail
      go_ret
      rw [HE.out]
      exact ⟨rfl, HJ9.out⟩
     case true =>
      have HE := Aside0.mk (show runK step (keysD (d + 1) t) s = runK step (((t.f2.drop (j + 1)).map (keysD d)).flatten) s2 from HQ2.out)
      go_wp2_with fail
      refine HCL.out.mono ?_
      rintro e W9 ⟨rfl, hj9⟩
      have HJ9 := Aside0.mk hj9
      clear hj9
      go_wp2_with fail
      go_roundg mm
      case measure => omega
      case rel => exact ⟨j + 1, s2, by first | (rw [HW9.out]; done) | (simp; done), ⟨by have := HI.out; omega⟩, HE, HJ9⟩

/-! ### zy_root: a text by hand -/
-- uses blk_cells3 NS heap90 ascK
def stepR (s : Bool × ByteArray) (k : ByteArray) : (Bool × ByteArray) × Bool := ((false, k), decide (k.size ≤ 16) && (s.1 || Op.bytesLess s.2.toList k.toList))
def ascF (last : ByteArray) : List ByteArray → Prop
 | [] => True
 | k :: ks => k.size ≤ 16 ∧ Op.bytesLess last.toList k.toList = true ∧ ascF k ks
theorem ascF_run : ∀ (ks : List ByteArray) (last : ByteArray), (runK stepR ks (false, last)).2 = true ↔ ascF last ks
 | [], last => by simp [runK, ascF]
 | k :: ks, last => by
   have h := ascF_run ks k
   simp only [runK, ascF, stepR, Bool.false_or]
   by_cases c1 : k.size ≤ 16
   ·cases c2 : Op.bytesLess last.toList k.toList
    ·simp [c1]
    ·simp [c1, h]
   ·simp [c1]
theorem ascF_iff : ∀ (ks : List ByteArray) (last : ByteArray), ascF last ks ↔ ∀ (j : Nat) (x : ByteArray), ks[j]? = some x → x.size ≤ 16 ∧ ∀ y, (last :: ks)[j]? = some y → Op.bytesLess y.toList x.toList = true
 | [], last => by simp [ascF]
 | k :: ks, last => by
   have h := ascF_iff ks k
   simp only [ascF]
   constructor
   ·rintro ⟨h1, h2, h3⟩ j x hx
    cases j with
    | zero =>
      simp only [List.getElem?_cons_zero, Option.some.injEq] at hx
      subst hx
      exact ⟨h1, fun y hy => by simp at hy; rw [← hy]; exact h2⟩
    | succ j => exact h.1 h3 j x (by simpa using hx)
   ·intro hh
    have h0 := hh 0 k rfl
    exact ⟨h0.1, h0.2 last rfl, h.2 (fun j x hx => hh (j + 1) x (by simpa using hx))⟩
theorem ascK_cons (k : ByteArray) (ks : List ByteArray) : ascK (k :: ks) ↔ k.size ≤ 16 ∧ ascF k ks := by
 rw [ascF_iff]
 constructor
 ·intro h
  refine ⟨(h 0 k rfl).1, fun j x hx => ?_⟩
  have := h (j + 1) x (by simpa using hx)
  exact ⟨this.1, fun y hy => this.2 y (by omega) (by simpa using hy)⟩
 ·rintro ⟨h1, h2⟩ j x hx
  cases j with
  | zero =>
    simp only [List.getElem?_cons_zero, Option.some.injEq] at hx
    subst hx
    exact ⟨h1, fun y h0 => absurd h0 (Nat.lt_irrefl 0)⟩
  | succ j =>
    have := h2 j x (by simpa using hx)
    exact ⟨this.1, fun y _ hy => this.2 y (by simpa using hy)⟩
theorem asc_run (ks : List ByteArray) (e : ByteArray) : (runK stepR ks (true, e)).2 = true ↔ ascK ks := by
 cases ks with
 | nil => simp [runK, ascK]
 | cons k ks =>
   rw [ascK_cons]
   simp only [runK, stepR, Bool.true_or, Bool.and_true]
   by_cases c1 : k.size ≤ 16
   ·simp [c1, ascF_run]
   ·simp [c1]
theorem seg_full {ns l : List S90} (h : Seg ns 0 l) (hl : l.length = ns.length) : l = ns := by
 obtain ⟨r, h⟩ := h
 simp only [List.drop_zero] at h
 have : r = [] := List.length_eq_zero_iff.1 (by have := congrArg List.length h; simp at this; omega)
 rw [h, this, List.append_nil]
set_option maxHeartbeats 4000000 in
set_option maxRecDepth 100000 in
theorem rootC_any {W : World} {gF gL : Nat} {first : Bool} {last k : ByteArray} (hF : W.heap[gF]? = some (.cells #[.bool first] 4 (0, 0))) (hL : W.heap[gL]? = some (.cells #[.string last] 9 (0, 0))) (hne : gF ≠ gL) :
  Calls Try.prog 71 #[.string k, .pointer (some ⟨gF, 0, none⟩), .pointer (some ⟨gL, 0, none⟩)] W fun e W' => e = .returned (.bool (stepR (first, last) k).2) ∧ W' = (W.setCell ⟨gL, 0, none⟩ (.string k)).setCell ⟨gF, 0, none⟩ (.bool false) := by
 have x0 : W.cell? ⟨gF, 0, none⟩ = some (.bool first) := (blk_cell hF 0).trans rfl
 have y0 := blk_frozen hF 0
 have x1 : W.cell? ⟨gL, 0, none⟩ = some (.string last) := (blk_cell hL 0).trans rfl
 have y1 := blk_frozen hL 0
 have hne2 : gL ≠ gF := fun h => hne h.symm
 obtain ⟨r, hr⟩ : ∃ r, r = (stepR (first, last) k).2 := ⟨_, rfl⟩
 rw [← hr]
 unfold stepR at hr
 simp only at hr
 by_cases c1 : k.size ≤ 16
 case neg =>
  have d1 : decide (k.size ≤ 16) = false := decide_eq_false c1
  have d1b : decide ((k.size : Int) ≤ 16) = false := decide_eq_false (by omega)
  rw [d1, Bool.false_and] at hr
  subst hr
  clear c1
  go_enter Try.func71, Try.ntmps71
  go_wp2_with fail
  go_ret
  exact ⟨rfl, rfl⟩
 case pos =>
 have d1 : decide (k.size ≤ 16) = true := decide_eq_true c1
 have d1b : decide ((k.size : Int) ≤ 16) = true := decide_eq_true (by omega)
 rw [d1, Bool.true_and] at hr
 clear c1
 rcases first with _ | _
 case true =>
  rw [Bool.true_or] at hr
  subst hr
  go_enter Try.func71, Try.ntmps71
  go_wp2_with fail
  go_ret
  exact ⟨rfl, rfl⟩
 case false =>
  rw [Bool.false_or] at hr
  subst hr
  go_enter Try.func71, Try.ntmps71
  go_wp2_with fail
  go_ret
  exact ⟨rfl, rfl⟩

/-! ### zz_root2: a text by hand -/
-- uses blk_cells3 NS heap90 ascK l3Of_any
structure RJ (m0 gL gF : Nat) (W7 : World) (s : Bool × ByteArray) (W : World) : Prop where
 l : W.heap[gL]? = some (.cells #[.string s.2] 9 (0, 0))
 f : W.heap[gF]? = some (.cells #[.bool s.1] 4 (0, 0))
 b : Below gL W7 W
theorem RJ_wj {m0 gL gF : Nat} {W7 : World} (hg : gF = gL + 1) : WJ (RJ m0 gL gF W7) stepR 71 #[.pointer (some ⟨gF, 0, none⟩), .pointer (some ⟨gL, 0, none⟩)] W7 (fun k => k < gL) where
 fn := ⟨_, Try.func71, by kernel_rfl, by kernel_rfl⟩
 call := fun s k W h => by
  refine (rootC_any (k := k) h.f h.l (by omega)).mono ?_
  rintro e W' ⟨rfl, rfl⟩
  refine ⟨rfl, ?_, ?_, ?_⟩
  ·exact blk_far (blk_put h.l 0 (.string k) rfl) (p := ⟨gF, 0, none⟩) (show gL ≠ gF by omega) (.bool false)
  ·exact blk_put (blk_far h.f (p := ⟨gL, 0, none⟩) (show gF ≠ gL by omega) (.string k)) 0 (.bool false) rfl
  ·exact (show Below gL W7 (W.setCell ⟨gL, 0, none⟩ (.string k)) from h.b.setCell (Nat.le_refl _) _).setCell (by show gL ≤ gF; omega) _
 kept := fun s W h k hk _ => h.b.block k hk
def RootEnd (ns : List S90) (W : World) (e : Ending) (W' : World) : Prop := Below W.heap.size W W' ∧ ((e = .returned .nilIface ∧ ∀ d t, ¬ okT ns d t) ∨ ∃ d t tp b, okT ns d t ∧ e = .returned (ifP tp b) ∧ Kd.FK (kN d) W' (fun _ => True) t [ifP tp b])
/-- As RootEnd; the tree lies in blocks below n0 and in new ones. -/
def RootEndN (n0 : Nat) (ns : List S90) (W : World) (e : Ending) (W' : World) : Prop := Below W.heap.size W W' ∧ ((e = .returned .nilIface ∧ ∀ d t, ¬ okT ns d t) ∨ ∃ d t tp b, okT ns d t ∧ e = .returned (ifP tp b) ∧ Kd.FK (kN d) W' (fun k => k < n0 ∨ W.heap.size ≤ k) t [ifP tp b])
set_option maxHeartbeats 8000000 in
set_option maxRecDepth 100000 in
theorem root_at (n0 : Nat) (ns : List S90) (hl : ns.length ≤ 1048576) (A : Option Addr) (c : Nat) (W : World) (hF : Kd.F k90 W (fun k => k < n0) A ns.length ns) (hn0 : n0 ≤ W.heap.size) (hc : ns.length ≤ c) :
  Calls Try.prog 46 #[.agg #[.slice A ns.length c]] W fun e W' => RootEndN n0 ns W e W' := by
 have hb0 : Below W.heap.size W (W.alloc (.cells #[.slice A ns.length c] 24)) := below_alloc (Below.refl _ _) _
 have K1 := Aside0.mk (blk_new W (.cells #[.slice A ns.length c] 24))
 have HZ := Aside0.mk (show (W.alloc (.cells #[.slice A ns.length c] 24)).heap.size = W.heap.size + 1 by simp)
 have HF := Aside0.mk (Kd.F_below hF hb0)
 have HB := Aside0.mk hb0
 have HP := Aside0.mk (And.intro hl hc)
 have hu24 := Try.underlying24
 have hu104 := Try.underlying104
 have hu67 := Try.underlying67
 have HN0 := Aside0.mk hn0
 clear hb0 hl hF hc hn0
 go_enter Try.func46, Try.ntmps46
 go_upto_region 1 with (fail)
 generalize (W.alloc (.cells #[.slice A ns.length c] 24)) = W0 at *
 obtain ⟨m0, hm0⟩ : ∃ m0, m0 = W.heap.size := ⟨_, rfl⟩
 rw [← hm0] at K1 HB HZ HN0 ⊢
 have HN := Aside0.mk hm0
 clear hm0
 have x0 : W0.cell? ⟨m0, 0, none⟩ = some (.slice A ns.length c) := (blk_cell K1.out 0).trans rfl
 by_cases c2 : 5000 < ns.length
 case pos =>
  have g2 : decide (5000 < ns.length) = true := decide_eq_true c2
  have g2b : decide (5000 < (ns.length : Int)) = true := decide_eq_true (by omega)
  have hno : ∀ d t, ¬ okT ns d t := fun d t h => by have := h.2.2.1; omega
  clear c2
  go_wp2_with fail
  go_ret
  exact ⟨by rw [← HN.out]; exact HB.out, Or.inl ⟨rfl, hno⟩⟩
 case neg =>
 have g2 : decide (5000 < ns.length) = false := decide_eq_false c2
 have g2b : decide (5000 < (ns.length : Int)) = false := decide_eq_false (by omega)
 have HLN := Aside0.mk (show ns.length ≤ 5000 by omega)
 clear c2
 go_upto_region 4 with (fail)
 have hb1 : Below W0.heap.size W0 (W0.alloc (.cells #[.slice A ns.length c, .int .i64 0] 104)) := below_alloc (Below.refl _ _) _
 have KR := Aside0.mk (blk_new W0 (.cells #[.slice A ns.length c, .int .i64 0] 104))
 have HZ1 := Aside0.mk (show (W0.alloc (.cells #[.slice A ns.length c, .int .i64 0] 104)).heap.size = m0 + 2 by simp [HZ.out])
 rw [HZ.out] at KR ⊢
 replace K1 := Aside0.mk (blk_below K1.out hb1)
 replace HF := Aside0.mk (Kd.F_below HF.out hb1)
 replace HB := Aside0.mk (below_lo HB.out hb1 (by have := HZ.out; omega))
 generalize (W0.alloc (.cells #[.slice A ns.length c, .int .i64 0] 104)) = W1 at *
 clear hb1 x0 g2 g2b HZ
 go_wp2_with fail
 refine (node_any n0 ns HP.out.1 31 0 rfl (Int.le_refl 0) true rfl 0 (Int.le_refl 0) A c (m0 + 1) W1 HF.out (by have := HN0.out; omega) KR.out).mono ?_
 rintro e W5 ⟨hs, hend⟩
 replace K1 := Aside0.mk ((hs.b.block m0 (by omega)).trans K1.out)
 replace HB := Aside0.mk (below_same HB.out (below_less hs.b (by omega)))
 have HZ5 := Aside0.mk (show m0 + 2 ≤ W5.heap.size by rw [← HZ1.out]; exact hs.b.size)
 clear hs KR HF
 have x0 : W5.cell? ⟨m0, 0, none⟩ = some (.slice A ns.length c) := (blk_cell K1.out 0).trans rfl
 rcases hend with ⟨hr, rfl⟩ | ⟨x, d, after, tp, b, hr, rfl, hK, hkg⟩
 ·have hno : ∀ d t, ¬ okT ns d t := fun d t h => by have := h.read; rw [hr] at this; cases this
  have hnn := eql_nn
  clear hr
  go_wp2_with fail
  go_ret
  exact ⟨by rw [← HN.out]; exact HB.out, Or.inl ⟨rfl, hno⟩⟩
 ·have hen : ∀ w, (binOp .eql 67 (.iface tp (.pointer (some ⟨b, 0, none⟩))) .nilIface).run Try.prog w = .ok (.bool false) w := fun w => eql_nil w tp _
  unfold ifP
  have r1 : W5.cell? ⟨m0 + 1, 1, none⟩ = some (.int .i64 after) := (blk_cell hkg 1).trans rfl
  have hsd := readD_sound 31 true 0 x d after (by simpa using hr)
  have HR := Aside0.mk hr
  have HK := Aside0.mk (Kd.FK_mono (ok' := fun k => (k < n0 ∨ m0 ≤ k) ∧ k < W5.heap.size) (Kd.FK_bound hK) (fun k hk => ⟨by have := hk.1; have := HZ1.out; omega, hk.2⟩))
  clear hr hK hkg
  by_cases ca : after = (ns.length : Int)
  case neg =>
   have cab : (after != (ns.length : Int)) = true := by simp [ca]
   have hno : ∀ d t, ¬ okT ns d t := fun d2 t2 h => by
    have := h.read
    rw [HR.out] at this
    simp only [Option.some.injEq, Prod.mk.injEq] at this
    exact ca this.2.2
   clear ca hsd
   go_wp2_with fail
   go_ret
   exact ⟨by rw [← HN.out]; exact HB.out, Or.inl ⟨rfl, hno⟩⟩
  case pos =>
  have cab : (after != (ns.length : Int)) = false := by simp [ca]
  have hfl : flatD d x 0 = ns := seg_full (by simpa using hsd.2.1) (by have h1 := hsd.2.2; simp only [Int.natCast_zero, Nat.zero_add] at h1; rw [ca] at h1; exact (Int.ofNat.inj h1).symm)
  have HG := Aside0.mk (And.intro hsd.1 hfl)
  clear hsd hfl ca
  go_upto_region 8 with (fail)
  have hb7 : Below W5.heap.size W5 ((W5.alloc (.cells #[.string ⟨#[]⟩] 9)).alloc (.cells #[.bool true] 4)) := below_alloc (below_alloc (Below.refl _ _) _) _
  have KL := Aside0.mk (blk_alloc (blk_new W5 (.cells #[.string ⟨#[]⟩] 9)) (.cells #[.bool true] 4))
  have KF := Aside0.mk (blk_new (W5.alloc (.cells #[.string ⟨#[]⟩] 9)) (.cells #[.bool true] 4))
  rw [show (W5.alloc (.cells #[.string ⟨#[]⟩] 9)).heap.size = W5.heap.size + 1 by simp] at KF
  replace HB := Aside0.mk (below_lo HB.out hb7 (by have := HZ5.out; omega))
  replace HK := Aside0.mk (Kd.FK_below HK.out hb7)
  generalize ((W5.alloc (.cells #[.string ⟨#[]⟩] 9)).alloc (.cells #[.bool true] 4)) = W7 at *
  obtain ⟨gL, hgL⟩ : ∃ gL, gL = W5.heap.size := ⟨_, rfl⟩
  rw [← hgL] at KL KF HK HZ5 ⊢
  clear hb7 hgL hen r1 x0 cab
  have HJ := Aside0.mk (RJ.mk (m0 := m0) (gF := gL + 1) (s := (true, ⟨#[]⟩)) KL.out KF.out (Below.refl gL W7))
  go_wp2_with fail
  refine (walk_any (RJ_wj (m0 := m0) (W7 := W7) (gL := gL) rfl) d x _ (Kd.FK_mono HK.out (fun _ hk => hk.2)) (true, ⟨#[]⟩) W7 HJ.out).mono ?_
  have HAS := Aside0.mk (asc_run (keysD d x) ⟨#[]⟩)
  obtain ⟨q, hq⟩ : ∃ q, q = runK stepR (keysD d x) (true, ⟨#[]⟩) := ⟨_, rfl⟩
  rw [← hq] at HAS ⊢
  clear hq
  rintro e W8 ⟨rfl, hj⟩
  replace HB := Aside0.mk (below_same HB.out (below_less hj.b (by have := HZ5.out; omega)))
  have HK8 := Aside0.mk (Kd.FK_mono (ok' := fun k => k < n0 ∨ m0 ≤ k) (Kd.FK_step HK.out (fun k hk _ => hj.b.block k hk.2)) (fun _ hk => hk.1))
  clear hj HJ KL KF HK K1
  obtain ⟨s2, ans⟩ := q
  rcases ans with _ | _
  case false =>
   have hno : ∀ d t, ¬ okT ns d t := fun d2 t2 h => by
    have h1 := h.read
    rw [HR.out] at h1
    simp only [Option.some.injEq, Prod.mk.injEq] at h1
    obtain ⟨rfl, rfl, _⟩ := h1
    have := HAS.out.2 h.2.2.2
    cases this
   go_wp2_with fail
   go_ret
   exact ⟨by rw [← HN.out]; exact HB.out, Or.inl ⟨rfl, hno⟩⟩
  case true =>
   have hok : okT ns d x := ⟨HG.out.1, HG.out.2, HLN.out, HAS.out.1 rfl⟩
   go_wp2_with fail
   go_ret
   exact ⟨by rw [← HN.out]; exact HB.out, Or.inr ⟨d, x, tp, b, hok, rfl, by rw [← HN.out]; exact HK8.out⟩⟩

/-! ### zz_valid3: a text by hand -/
-- uses results_two RootEnd OfEnd eql_nil
noncomputable def validB (ns : List S90) : Bool := iteB (∃ d t, okT ns d t) true
noncomputable def m_ValidTree.f (_k : Nat) (l : List S90) : Option Bool := if l.length ≤ 1048576 ∧ l.all (fun x => decide (x.f2.length ≤ 1048576)) = true then some (validB l) else none
theorem kids_bound {l : List S90} (h : l.all (fun x => decide (x.f2.length ≤ 1048576)) = true) (i : Int) : (rd_T90 l i).f2.length ≤ 1048576 := by
 unfold rd_T90
 rw [List.getD_eq_getElem?_getD]
 rcases hx : l[i.toNat]? with _ | x
 ·exact Nat.zero_le _
 ·have := List.all_eq_true.1 h x (List.mem_of_getElem? hx)
  simpa using this

/-! ### zzr_rank: a text by hand -/
-- uses goesI_ kN_open0 w64s w64m
-- import Derived.WalkLawsBesides

/-! ### zzs_rank2: a text by hand -/
-- uses rankM kids_bound keys_at OfEnd RootEnd
theorem ta_n0 (w : World) : (Instr.typeAssert .nilIface 67 58 true).run Try.prog w = .ok (.tuple #[.pointer none, .bool false]) w := by kernel_rfl
theorem ta_nS (w : World) : (Instr.typeAssert .nilIface 67 79 true).run Try.prog w = .ok (.tuple #[.pointer none, .bool false]) w := by kernel_rfl
theorem keys_of {ns : List S90} {x : S56} {okk : Bool} (h1 : okk = true → ∃ d, okT ns d x) (h2 : okk = false → ∀ d t, ¬ okT ns d t) (h3 : x = z56 ∨ ∃ d, goodD d true x ∧ d ≤ 12) :
  ∃ K Ks, spec_l3Keys.f K x.f0 x.f1 x.f2 = some Ks ∧ Ks.length ≤ 4 ^ 13 ∧ treeKeys ns = if okk = true then some Ks else none := by
 have hz : spec_l3Keys.f 3 (z56 : S56).f0 (z56 : S56).f1 (z56 : S56).f2 = some [] := rfl
 rcases okk with _ | _
 ·have e : treeKeys ns = none := treeKeys_none (h2 rfl)
  rcases h3 with h3 | ⟨d, hg, hd⟩
  ·exact ⟨3, [], by rw [h3]; exact hz, by simp, e⟩
  ·exact ⟨6 * d + 1, keysD d x, keys_at d true x _ hg (by omega) (Nat.le_refl _), Nat.le_trans (keysD_le hg) (pow4 _ _ (by omega)), e⟩
 ·obtain ⟨d, hok⟩ := h1 rfl
  exact ⟨6 * d + 1, keysD d x, keys_at d true x _ hok.1 (by have := hok.depth; omega) (Nat.le_refl _), Nat.le_trans (keysD_le hok.1) (pow4 _ _ (by have := hok.depth; omega)), treeKeys_of hok⟩
noncomputable def m_TreeRank.f (_k : Nat) (l : List S90) (a1 : ByteArray) : Option Int := if l.length ≤ 1048576 ∧ l.all (fun x => decide (x.f2.length ≤ 1048576)) = true then some (rankM l a1) else none

/-! ### zzt_range: a text by hand -/
-- uses kids_bound OfEnd RootEnd below_new
-- import Derived.WalkLawsBesides
def inR (lo hi k : ByteArray) : Bool := !(lt k lo) && (decide (hi = ⟨#[]⟩) || lt k hi)
noncomputable def rangeM (ns : List S90) (lo hi : ByteArray) : List ByteArray := match treeKeys ns with
 | none => []
 | some ks => ks.filter (inR lo hi)
noncomputable def m_TreeRange.f (_k : Nat) (l : List S90) (a1 a2 : ByteArray) : Option (List ByteArray) := if l.length ≤ 1048576 ∧ l.all (fun x => decide (x.f2.length ≤ 1048576)) = true then some (rangeM l a1 a2) else none
theorem empty_toList : (⟨#[]⟩ : ByteArray).toList = [] := by rw [ByteArray.toList_eq]
theorem filter_take {p : ByteArray → Bool} {ks : List ByteArray} {j : Nat} (h : j < ks.length) : (ks.take (j + 1)).filter p = (ks.take j).filter p ++ (if p ks[j] = true then [ks[j]] else []) := by
 rw [List.take_add_one, List.getElem?_eq_getElem h, Option.toList_some, List.filter_append]
 simp only [List.filter_cons, List.filter_nil]
set_option maxHeartbeats 16000000 in
set_option maxRecDepth 100000 in
theorem spec_TreeRange.calls (k : Nat) (A0_0 : Option Addr) (c0_0 : Nat) (l0_0 : List (S90)) (a1 : ByteArray) (a2 : ByteArray) (r : List ByteArray) (w : World) (hr0_0 : Kd.C k90 w A0_0 l0_0.length l0_0) (hc0_0 : l0_0.length ≤ c0_0) (h : m_TreeRange.f k l0_0 a1 a2 = some r) :
  Calls Try.prog 21 #[.agg #[.slice A0_0 l0_0.length c0_0], .string a1, .string a2] w fun e w' => ∃ v0_ : Value, e = .returned (v0_) ∧ Kd.R Kd.string 9 w' w.heap.size (fun _ => True) v0_ r ∧ Below w.heap.size w w' := by
 unfold m_TreeRange.f at h
 split at h
 case isFalse => cases h
 next hL =>
 injection h with h
 subst h
 have hb0 : Below w.heap.size w (w.alloc (.cells #[.slice A0_0 l0_0.length c0_0] 24)) := below_alloc (Below.refl _ _) _
 have K1 := Aside0.mk (blk_new w (.cells #[.slice A0_0 l0_0.length c0_0] 24))
 have HB := Aside0.mk hb0
 have HR := Aside0.mk (Kd.C_below hr0_0 hb0)
 have HL := Aside0.mk (And.intro hL hc0_0)
 have hu24 := Try.underlying24
 have hu56 := Try.underlying56
 clear hb0 hL hr0_0 hc0_0
 go_enter Try.func21, Try.ntmps21
 go_upto_region 1 with (fail)
 generalize (w.alloc (.cells #[.slice A0_0 l0_0.length c0_0] 24)) = W0 at *
 have x0 : W0.cell? ⟨w.heap.size, 0, none⟩ = some (.slice A0_0 l0_0.length c0_0) := (blk_cell K1.out 0).trans rfl
 go_wp2_with fail
 refine (l3Of_any l0_0 HL.out.1.1 (kids_bound HL.out.1.2) A0_0 c0_0 W0 HR.out HL.out.2).mono ?_
 rintro e W5 ⟨x, v1, v2, okk, rfl, hK, hb, h1, h2, h3⟩
 obtain ⟨A5, c5, A6, c6, he, l1, F1, l2, F2⟩ := k56_openF hK
 simp only [List.cons.injEq, and_true, true_and] at he
 obtain ⟨rfl, rfl⟩ := he
 have HB5 := Aside0.mk (below_lo HB.out hb HB.out.size)
 obtain ⟨K, Ks, hk, hkl, htk⟩ := keys_of h1 h2 h3
 have HK := Aside0.mk hk
 have HKL := Aside0.mk hkl
 have HTK := Aside0.mk htk
 have HL2 := Aside0.mk (And.intro l1 l2)
 have HF1 := Aside0.mk F1
 have HF2 := Aside0.mk F2
 clear hK hb h1 h2 h3 x0 hk hkl htk l1 F1 l2 F2
 go_upto_region 2 with (fail)
 have hb6 : Below W5.heap.size W5 (W5.alloc (.cells #[.bool x.f0, .slice A5 x.f1.length c5, .slice A6 x.f2.length c6] 56)) := below_alloc (Below.refl _ _) _
 have K4 := Aside0.mk (blk_new W5 (.cells #[.bool x.f0, .slice A5 x.f1.length c5, .slice A6 x.f2.length c6] 56))
 replace HB5 := Aside0.mk (below_lo HB5.out hb6 HB5.out.size)
 replace HF1 := Aside0.mk (Kd.F_below HF1.out hb6)
 replace HF2 := Aside0.mk (Kd.F_below HF2.out hb6)
 generalize (W5.alloc (.cells #[.bool x.f0, .slice A5 x.f1.length c5, .slice A6 x.f2.length c6] 56)) = W6 at *
 clear hb6
 have HZ6 := Aside0.mk HB5.out.size
 go_wp2_with (first
  | ((with_reducible refine gate_dst (N := 17) rfl ?_); refine Kd.R_lit Kd.string (w0 := W6) w.heap.size 9 ?hg (N := 17) ?hd (xs := ([] : List ByteArray)) (inner := []) (ok := fun _ => True) (okp := fun _ => True) ?hr ?hp (fun _ hk => hk) trivial ?hB ?hS (by simp) ?_; (case hd => rfl); (case hg => rfl); (case hr => first | (go_simp; done) | (go_simp; rfl)); (case hp => exact (Reps.none _ _)); (case hB => exact ⟨rfl, rfl, rfl, Nat.le_refl _, fun _ _ => rfl⟩); (case hS => exact HZ6.out); intro v17 w3 ho hb hg2 hat; have hbn := below_new hb hg2; have HO := Aside0.mk ho; have K43 := Aside0.mk (blk_below K4.out hbn); have HF13 := Aside0.mk (Kd.F_below HF1.out hbn); have HF23 := Aside0.mk (Kd.F_below HF2.out hbn); have HB3 := Aside0.mk (below_lo HB5.out hbn HZ6.out); clear ho hb hg2 hat hbn K4 HF1 HF2 HB5; obtain ⟨z0, z1, z2, u0, u1, u2⟩ := blk_cells3 K43.out)
  | fail)
 refine (spec_l3Keys.calls K _ _ _ _ _ _ _ _ _ (Kd.F_now HF13.out) HL2.out.1 (Kd.F_now HF23.out) HL2.out.2 HK.out).mono ?_
 rintro e W7 ⟨v8, rfl, hR, hb⟩
 obtain ⟨A8, c8, rfl⟩ := Kd.R_slice hR
 have HRK := Aside0.mk hR
 have HB7 := Aside0.mk (below_lo HB3.out hb HB3.out.size)
 have HO7 := Aside0.mk (Kd.R_below HO.out hb)
 have HLT := Aside0.mk (Kd.R_lt HO.out)
 obtain ⟨A17, c17, e17⟩ := Kd.R_slice HO.out
 subst e17
 clear hR hb z0 z1 z2 u0 u1 u2 HO HB3
 go_wp2_with fail
 rcases okk with _ | _
 case false =>
  have HV := Aside0.mk (show rangeM l0_0 a1 a2 = [] by unfold rangeM; rw [HTK.out]; rfl)
  go_loopg [9, 11] 0 (fun kq v9 v11 w' => v9 = .slice A17 ([] : List ByteArray).length c17 ∧ w' = W7)
  case atStart => exact ⟨rfl, rfl⟩
  case round =>
    obtain ⟨rfl, rfl⟩ := hrel
    go_wp2_with fail
    go_ret
    rw [HV.out]
    exact ⟨_, rfl, HO7.out, HB7.out⟩
 case true =>
  have HV := Aside0.mk (show rangeM l0_0 a1 a2 = Ks.filter (inR a1 a2) by unfold rangeM; rw [HTK.out]; rfl)
  have HKF := Aside0.mk (show Kd.F Kd.string W7 (fun k => True ∧ some k ≠ (Value.slice A17 ([] : List ByteArray).length c17).ownBlock) A8 Ks.length Ks from Kd.F_mono (Kd.R_F (Kd.R_tight rfl HRK.out)) (fun k hk => ⟨trivial, fun he => by
    have h1 := Kd.R_base HRK.out k hk.symm
    have h2 := HLT.out k he.symm
    omega⟩))
  have HE0 := Aside0.mk (show ([] : List ByteArray) = (Ks.take 0).filter (inR a1 a2) by simp)
  clear HRK HLT
  go_loopg [9, 11] Ks.length (fun kq v9 v11 w' => ∃ (j : Nat) (A9 : Option Addr) (c9 : Nat) (out : List ByteArray), v9 = .slice A9 out.length c9 ∧ v11 = .int .i64 (j : Int) ∧ Aside0 (j ≤ Ks.length ∧ Ks.length ≤ kq + j) ∧ Aside0 (out = (Ks.take j).filter (inR a1 a2)) ∧ Aside0 (Kd.R Kd.string 9 w' w.heap.size (fun _ => True) (.slice A9 out.length c9) out) ∧ Aside0 (Kd.F Kd.string w' (fun k => True ∧ some k ≠ (Value.slice A9 out.length c9).ownBlock) A8 Ks.length Ks) ∧ Aside0 (Below w.heap.size w w'))
  case atStart => exact ⟨0, A17, c17, [], rfl, rfl, ⟨by omega, by omega⟩, HE0, HO7, HKF, HB7⟩
  case round =>
    clear HO7 HKF HB7 HE0
    obtain ⟨j, A9, c9, out, rfl, rfl, HI, HQ, HO, HKF, HB⟩ := hrel
    by_cases cj : j < Ks.length
    case neg =>
      have cjb : decide (j < Ks.length) = false := decide_eq_false cj
      have HV2 := Aside0.mk (show rangeM l0_0 a1 a2 = out by rw [HV.out, HQ.out, List.take_of_length_le (by omega)])
      clear cj
      go_wp2_with fail
      go_ret
      rw [HV2.out]
      exact ⟨_, rfl, HO.out, HB.out⟩
    case pos =>
      have cjb : decide (j < Ks.length) = true := decide_eq_true cj
      obtain ⟨mm, rfl⟩ : ∃ mm, gk = mm + 1 := ⟨gk - 1, by have := HI.out; omega⟩
      obtain ⟨ad, rfl, hx⟩ := Kd.at_string (Kd.F_now HKF.out) (j : Int) (by omega) (by omega)
      rw [rdb_at _ _ cj] at hx
      simp only [Int.toNat_natCast] at hx
      have p5 : (0 ≤ (j : Int)) = True := eq_true (by omega)
      have q5 : ((j : Int) < (Ks.length : Int)) = True := eq_true (by omega)
      have q6 : (j < Ks.length) = True := eq_true cj
      have HT := Aside0.mk (filter_take (p := inR a1 a2) cj)
      have HOL := Aside0.mk (show out.length ≤ Ks.length by rw [HQ.out]; exact Nat.le_trans (List.length_filter_le _ _) (List.length_take_le' _ _))
      have HCJ := Aside0.mk cj
      have HW1 := Aside0.mk (w64m j (by have := HKL.out; omega))
      obtain ⟨kj, hkj⟩ : ∃ kj, kj = Ks[j]'cj := ⟨_, rfl⟩
      rw [← hkj, ← HQ.out] at HT
      rw [← hkj] at hx
      clear hkj
      cases hlt : Op.bytesLess kj.toList a1.toList
      case true =>
       have HE := Aside0.mk (show out = (Ks.take (j + 1)).filter (inR a1 a2) by rw [HT.out]; simp [inR, lt, hlt])
       go_wp2_with fail
       go_roundg mm
       case measure => omega
       case rel => exact ⟨j + 1, A9, c9, out, rfl, by first | (rw [HW1.out]; done) | (simp; done), ⟨by have := HI.out; have := HCJ.out; omega⟩, HE, HO, HKF, HB⟩
      case false =>
       by_cases ce : a2 = ⟨#[]⟩
       case pos =>
        have HE := Aside0.mk (show out ++ [kj] = (Ks.take (j + 1)).filter (inR a1 a2) by rw [HT.out]; simp [inR, lt, hlt, ce])
        have e1 : (a2.toList == (⟨#[]⟩ : ByteArray).toList) = true := by rw [ce]; exact beq_self_eq_true _
        have e2 : (a2.toList == ([] : List UInt8)) = true := by rw [ce, empty_toList]; rfl
        have e3 : decide (a2.toList = []) = true := decide_eq_true (by rw [ce, empty_toList])
        have e4 : (a2.toList = []) = True := eq_true (by rw [ce, empty_toList])
        clear ce
        go_wp2_with ((with_reducible refine gate_builtin (b := .append) (xs := #[.tmp 47, .tmp 52]) rfl ?_); at_builtin; refine Kd.R_append Kd.string (w0 := wr) w.heap.size rfl (.tmp 47) (.tmp 52) 38 9 (.string ⟨#[]⟩) 16 rfl Try.underlying38 info9 rfl (by decide) (by omega) (.slice A9 out.length c9) out kj [.string kj] (fun _ => True) (fun _ => False) rfl rfl ?aP (fun _ hk => hk.elim) ?aF ?aO ?aB ?aS ?aL ?_; (case aP => exact rfl); (case aB => exact Below.refl _ _); (case aF => exact (fun _ _ => trivial)); (case aO => exact HO.out); (case aS => exact HB.out.size); (case aL => have := HKL.out; have := HOL.out; omega); intro v53 w9 ho hb hg hat; have HB9 := Aside0.mk (below_same HB.out hb); have HK9 := Aside0.mk (Kd.F_after HKF.out hg hat); obtain ⟨A53, c53, rfl⟩ := Kd.R_slice ho; have HO9 := Aside0.mk ho; clear ho hb hg hat HO HKF HB)
        go_roundg mm
        case measure => omega
        case rel => exact ⟨j + 1, A53, c53, out ++ [kj], by rw [List.length_append]; rfl, by first | (rw [HW1.out]; done) | (simp; done), ⟨by have := HI.out; have := HCJ.out; omega⟩, HE, HO9, HK9, HB9⟩
       case neg =>
        have hn : ¬ a2.toList = [] := fun h => ce (bs_inj (by rw [h, empty_toList]))
        have e2 : (a2.toList == ([] : List UInt8)) = false := by rw [beq_eq_false_iff_ne]; exact hn
        have e1 : (a2.toList == (⟨#[]⟩ : ByteArray).toList) = false := by rw [empty_toList]; exact e2
        have e3 : decide (a2.toList = []) = false := decide_eq_false hn
        have e4 : (a2.toList = []) = False := eq_false hn
        cases hlt2 : Op.bytesLess kj.toList a2.toList
        case true =>
         have HE := Aside0.mk (show out ++ [kj] = (Ks.take (j + 1)).filter (inR a1 a2) by rw [HT.out]; simp [inR, lt, hlt, hlt2])
         clear ce hn
         go_wp2_with ((with_reducible refine gate_builtin (b := .append) (xs := #[.tmp 47, .tmp 52]) rfl ?_); at_builtin; refine Kd.R_append Kd.string (w0 := wr) w.heap.size rfl (.tmp 47) (.tmp 52) 38 9 (.string ⟨#[]⟩) 16 rfl Try.underlying38 info9 rfl (by decide) (by omega) (.slice A9 out.length c9) out kj [.string kj] (fun _ => True) (fun _ => False) rfl rfl ?aP (fun _ hk => hk.elim) ?aF ?aO ?aB ?aS ?aL ?_; (case aP => exact rfl); (case aB => exact Below.refl _ _); (case aF => exact (fun _ _ => trivial)); (case aO => exact HO.out); (case aS => exact HB.out.size); (case aL => have := HKL.out; have := HOL.out; omega); intro v53 w9 ho hb hg hat; have HB9 := Aside0.mk (below_same HB.out hb); have HK9 := Aside0.mk (Kd.F_after HKF.out hg hat); obtain ⟨A53, c53, rfl⟩ := Kd.R_slice ho; have HO9 := Aside0.mk ho; clear ho hb hg hat HO HKF HB)
         go_roundg mm
         case measure => omega
         case rel => exact ⟨j + 1, A53, c53, out ++ [kj], by rw [List.length_append]; rfl, by first | (rw [HW1.out]; done) | (simp; done), ⟨by have := HI.out; have := HCJ.out; omega⟩, HE, HO9, HK9, HB9⟩
        case false =>
         have HE := Aside0.mk (show out = (Ks.take (j + 1)).filter (inR a1 a2) by rw [HT.out]; simp [inR, lt, hlt, hlt2, ce])
         clear ce hn
         go_wp2_with fail
         go_roundg mm
         case measure => omega
         case rel => exact ⟨j + 1, A9, c9, out, rfl, by first | (rw [HW1.out]; done) | (simp; done), ⟨by have := HI.out; have := HCJ.out; omega⟩, HE, HO, HKF, HB⟩

/-! ### zzta_walk2: a text by hand -/
-- uses blk_cells3 at_N kN_open0
/-- As walk_any, with a promise P about each key that the closure is told along the run. -/
def runOK {σ : Type} (step : σ → ByteArray → σ × Bool) (P : σ → ByteArray → Prop) : List ByteArray → σ → Prop
 | [], _ => True
 | k :: ks, s => P s k ∧ ((step s k).2 = true → runOK step P ks (step s k).1)
theorem runOK_append {σ : Type} {step : σ → ByteArray → σ × Bool} {P : σ → ByteArray → Prop} : ∀ (ks ls : List ByteArray) (s : σ), runOK step P (ks ++ ls) s → runOK step P ks s ∧ ((runK step ks s).2 = true → runOK step P ls (runK step ks s).1)
 | [], ls, s, h => ⟨trivial, fun _ => h⟩
 | k :: ks, ls, s, h => by
   simp only [List.cons_append, runOK] at h
   refine ⟨⟨h.1, fun hs => (runOK_append ks ls _ (h.2 hs)).1⟩, fun hr => ?_⟩
   simp only [runK] at hr ⊢
   by_cases hs : (step s k).2 = true
   ·rw [if_pos hs] at hr ⊢
    exact (runOK_append ks ls _ (h.2 hs)).2 hr
   ·rw [if_neg hs] at hr
    cases hr
structure WP {σ : Type} (J : σ → World → Prop) (P : σ → ByteArray → Prop) (step : σ → ByteArray → σ × Bool) (fid : FuncId) (cap : Array Value) (W0 : World) (okT : Nat → Prop) : Prop where
 fn : ∃ fn, Try.prog.funcs[fid]? = some fn ∧ (fn.name == "runtime.NumGoroutine") = false ∧ fn.body.isSome = true
 call : ∀ (s : σ) (k : ByteArray) (W : World), J s W → P s k → Calls Try.prog fid (#[.string k] ++ cap) W fun e W' => e = .returned (.bool (step s k).2) ∧ J (step s k).1 W'
 kept : ∀ (s : σ) (W : World), J s W → ∀ k, okT k → k < W0.heap.size → W.heap[k]? = W0.heap[k]?
set_option maxHeartbeats 8000000 in
set_option maxRecDepth 100000 in
theorem walkP_any {σ : Type} {J : σ → World → Prop} {P : σ → ByteArray → Prop} {step : σ → ByteArray → σ × Bool} {fid : FuncId} {cap : Array Value} {W0 : World} {okT : Nat → Prop} (H : WP J P step fid cap W0 okT) : ∀ (d : Nat) (t : S56) (v : Value) (_ : Kd.FK (kN d) W0 okT t [v]) (s : σ) (W : World) (_ : J s W) (_ : runOK step P (keysD d t) s),
   Calls Try.prog 49 #[v, .func (.func fid) #[] cap] W fun e W' => e = .returned (.bool (runK step (keysD d t) s).2) ∧ J (runK step (keysD d t) s).1 W' := by
 intro d
 induction d with
 | zero =>
   intro t v hK s W hJ hP
   have HPK := Aside0.mk hP
   clear hP
   obtain ⟨b, A, c, ke, kl, kb, kF⟩ := kN_open0 hK
   have hv : v = ifP 58 b := by simpa using ke
   subst hv
   unfold ifP
   have hbl := (Array.getElem?_eq_some_iff.1 kl.2.2.1).1
   have x1 : W.cell? ⟨b, 1, none⟩ = some (.slice A t.f1.length c) := (blk_cell ((H.kept s W hJ b kb hbl).trans kl.2.2.1) 1).trans rfl
   have hu2 := Try.underlying93
   have hta := ta_00
   have HF := Aside0.mk kF
   have HJ := Aside0.mk hJ
   have HM := Aside0.mk (Kd.F_max kF)
   clear ke kl kb kF hJ hK hbl
   go_enter Try.func49, Try.ntmps49
   go_wp2_with fail
   go_loopg [7, 20] t.f1.length (fun kq v7 v20 w' => ∃ (j : Nat) (s' : σ), v20 = .int .i64 (j : Int) ∧ Aside0 (j ≤ t.f1.length ∧ t.f1.length ≤ kq + j) ∧ Aside0 (runK step t.f1 s = runK step (t.f1.drop j) s') ∧ Aside0 (runOK step P (t.f1.drop j) s') ∧ Aside0 (J s' w'))
   case atStart => exact ⟨0, s, rfl, ⟨by omega, by omega⟩, ⟨rfl⟩, HPK, HJ⟩
   case round =>
    clear HJ x1 HPK
    obtain ⟨j, s', rfl, HI, HQ, HP, HJ⟩ := hrel
    by_cases cj : j < t.f1.length
    case neg =>
     have cjb : decide (j < t.f1.length) = false := decide_eq_false cj
     have hj : j = t.f1.length := by have := HI.out; omega
     have HE := Aside0.mk (show runK step (keysD 0 t) s = (s', true) by
      show runK step t.f1 s = _
      rw [HQ.out, hj, List.drop_length]
      rfl)
     clear hj cj
     go_wp2_with fail
     go_ret
     rw [HE.out]
     exact ⟨rfl, HJ.out⟩
    case pos =>
     have cjb : decide (j < t.f1.length) = true := decide_eq_true cj
     obtain ⟨mm, rfl⟩ : ∃ mm, gk = mm + 1 := ⟨gk - 1, by have := HI.out; omega⟩
     obtain ⟨ad, rfl, hx⟩ := Kd.at_string (Kd.F_now (Kd.F_step HF.out (H.kept s' wr HJ.out))) (j : Int) (by omega) (by omega)
     rw [rdb_at _ _ cj] at hx
     simp only [Int.toNat_natCast] at hx
     have p5 : (0 ≤ (j : Int)) = True := eq_true (by omega)
     have q5 : ((j : Int) < (t.f1.length : Int)) = True := eq_true (by omega)
     have q6 : (j < t.f1.length) = True := eq_true cj
     have HQ2 := Aside0.mk (show runK step t.f1 s = if (step s' (t.f1[j]'cj)).2 = true then runK step (t.f1.drop (j + 1)) (step s' (t.f1[j]'cj)).1 else ((step s' (t.f1[j]'cj)).1, false) by
      rw [HQ.out, List.drop_eq_getElem_cons cj]
      rfl)
     have HW9 := Aside0.mk (w64m j (by have := HM.out; omega))
     have HP2 := Aside0.mk (show P s' (t.f1[j]'cj) ∧ ((step s' (t.f1[j]'cj)).2 = true → runOK step P (t.f1.drop (j + 1)) (step s' (t.f1[j]'cj)).1) by
      have := HP.out
      rw [List.drop_eq_getElem_cons cj] at this
      exact this)
     obtain ⟨key, hkey⟩ : ∃ key, key = t.f1[j]'cj := ⟨_, rfl⟩
     rw [← hkey] at hx HQ2 HP2
     clear hkey
     obtain ⟨q, hq⟩ : ∃ q, q = step s' key := ⟨_, rfl⟩
     have HCL := Aside0.mk (H.call s' key wr HJ.out HP2.out.1)
     rw [← hq] at HQ2 HCL HP2
     clear hq
     obtain ⟨s2, ans⟩ := q
     obtain ⟨fn, hf, hname, hbody⟩ := H.fn
     rcases ans with _ | _
     case false =>
      have HE := Aside0.mk (show runK step (keysD 0 t) s = (s2, false) from HQ2.out)
      go_wp2_with ((with_reducible refine gate_dst (N := 26) rfl ?_); refine goesI_ (some 26) rfl rfl fid (#[.string key] ++ cap) (run_closure hf hname hbody #[.string key] rfl rfl (by (try simp only [List.map_toArray, List.map_cons, List.map_nil]); first | done | rfl)) ?_; refine HCL.out.mono ?_; rintro e W9 ⟨rfl, hj9⟩; refine ⟨_, rfl, ?_⟩; have HJ9 := Aside0.mk hj9; clear hj9)
      go_ret
      rw [HE.out]
      exact ⟨rfl, HJ9.out⟩
     case true =>
      have HE := Aside0.mk (show runK step t.f1 s = runK step (t.f1.drop (j + 1)) s2 from HQ2.out)
      have HP3 := Aside0.mk (HP2.out.2 rfl)
      go_wp2_with ((with_reducible refine gate_dst (N := 26) rfl ?_); refine goesI_ (some 26) rfl rfl fid (#[.string key] ++ cap) (run_closure hf hname hbody #[.string key] rfl rfl (by (try simp only [List.map_toArray, List.map_cons, List.map_nil]); first | done | rfl)) ?_; refine HCL.out.mono ?_; rintro e W9 ⟨rfl, hj9⟩; refine ⟨_, rfl, ?_⟩; have HJ9 := Aside0.mk hj9; clear hj9)
      go_roundg mm
      case measure => omega
      case rel => exact ⟨j + 1, s2, by first | (rw [HW9.out]; done) | (simp; done), ⟨by have := HI.out; omega⟩, HE, HP3, HJ9⟩
 | succ d ih =>
   intro t v hK s W hJ hP
   have HPK := Aside0.mk hP
   clear hP
   obtain ⟨b, A, c, ke, kl, kb, kF⟩ := kN_openS hK
   have hv : v = ifP 79 b := by simpa using ke
   subst hv
   unfold ifP
   have hbl := (Array.getElem?_eq_some_iff.1 kl.2.2.1).1
   have x1 : W.cell? ⟨b, 1, none⟩ = some (.slice A t.f2.length c) := (blk_cell ((H.kept s W hJ b kb hbl).trans kl.2.2.1) 1).trans rfl
   have hu2 := Try.underlying87
   have hta := ta_S0
   have hta2 := ta_SS
   have HF := Aside0.mk kF
   have HJ := Aside0.mk hJ
   have HM := Aside0.mk (Kd.F_max kF)
   have IH := Aside0.mk ih
   clear ke kl kb kF hJ hK hbl ih
   go_enter Try.func49, Try.ntmps49
   go_wp2_with fail
   go_loopg [10, 37] t.f2.length (fun kq v10 v37 w' => ∃ (j : Nat) (s' : σ), v37 = .int .i64 (j : Int) ∧ Aside0 (j ≤ t.f2.length ∧ t.f2.length ≤ kq + j) ∧ Aside0 (runK step (keysD (d + 1) t) s = runK step (((t.f2.drop j).map (keysD d)).flatten) s') ∧ Aside0 (runOK step P (((t.f2.drop j).map (keysD d)).flatten) s') ∧ Aside0 (J s' w'))
   case atStart => exact ⟨0, s, rfl, ⟨by omega, by omega⟩, ⟨rfl⟩, HPK, HJ⟩
   case round =>
    clear HJ x1 HPK
    obtain ⟨j, s', rfl, HI, HQ, HP, HJ⟩ := hrel
    by_cases cj : j < t.f2.length
    case neg =>
     have cjb : decide (j < t.f2.length) = false := decide_eq_false cj
     have hj : j = t.f2.length := by have := HI.out; omega
     have HE := Aside0.mk (show runK step (keysD (d + 1) t) s = (s', true) by
      rw [HQ.out, hj, List.drop_length]
      rfl)
     clear hj cj
     go_wp2_with fail
     go_ret
     rw [HE.out]
     exact ⟨rfl, HJ.out⟩
    case pos =>
     have cjb : decide (j < t.f2.length) = true := decide_eq_true cj
     obtain ⟨mm, rfl⟩ : ∃ mm, gk = mm + 1 := ⟨gk - 1, by have := HI.out; omega⟩
     obtain ⟨ad, v, rfl, hx, hK, hkb⟩ := at_N HF.out j cj
     rw [rd56_at _ _ cj] at hK
     have HQ2 := Aside0.mk (show runK step (keysD (d + 1) t) s = if (runK step (keysD d (t.f2[j]'cj)) s').2 = true then runK step (((t.f2.drop (j + 1)).map (keysD d)).flatten) (runK step (keysD d (t.f2[j]'cj)) s').1 else ((runK step (keysD d (t.f2[j]'cj)) s').1, false) by
      rw [HQ.out, List.drop_eq_getElem_cons cj, List.map_cons, List.flatten_cons, runK_append])
     have HP2 := Aside0.mk (show runOK step P (keysD d (t.f2[j]'cj)) s' ∧ ((runK step (keysD d (t.f2[j]'cj)) s').2 = true → runOK step P (((t.f2.drop (j + 1)).map (keysD d)).flatten) (runK step (keysD d (t.f2[j]'cj)) s').1) by
      have := HP.out
      rw [List.drop_eq_getElem_cons cj, List.map_cons, List.flatten_cons] at this
      exact runOK_append _ _ _ this)
     have HCL := Aside0.mk (IH.out (t.f2[j]'cj) v hK s' wr HJ.out HP2.out.1)
     obtain ⟨q, hq⟩ : ∃ q, q = runK step (keysD d (t.f2[j]'cj)) s' := ⟨_, rfl⟩
     rw [← hq] at HQ2 HCL HP2
     have hxw : wr.cell? (ad.add j) = some v := by
      have := H.kept s' wr HJ.out (ad.add j).block hkb (World.block_lt_of_cell? W0 _ hx)
      simpa [World.cell?, this] using hx
     clear hq hx
     obtain ⟨s2, ans⟩ := q
     have p5 : (0 ≤ (j : Int)) = True := eq_true (by omega)
     have q5 : ((j : Int) < (t.f2.length : Int)) = True := eq_true (by omega)
     have q6 : (j < t.f2.length) = True := eq_true cj
     have HW9 := Aside0.mk (w64m j (by have := HM.out; omega))
     rcases ans with _ | _
     case false =>
      have HE := Aside0.mk (show runK step (keysD (d + 1) t) s = (s2, false) from HQ2.out)
      go_wp2_with fail
      refine HCL.out.mono ?_
      rintro e W9 ⟨rfl, hj9⟩
      have HJ9 := Aside0.mk hj9
      clear hj9
      go_wp2_with fail
      go_ret
      rw [HE.out]
      exact ⟨rfl, HJ9.out⟩
     case true =>
      have HE := Aside0.mk (show runK step (keysD (d + 1) t) s = runK step (((t.f2.drop (j + 1)).map (keysD d)).flatten) s2 from HQ2.out)
      have HP3 := Aside0.mk (HP2.out.2 rfl)
      go_wp2_with fail
      refine HCL.out.mono ?_
      rintro e W9 ⟨rfl, hj9⟩
      have HJ9 := Aside0.mk hj9
      clear hj9
      go_wp2_with fail
      go_roundg mm
      case measure => omega
      case rel => exact ⟨j + 1, s2, by first | (rw [HW9.out]; done) | (simp; done), ⟨by have := HI.out; omega⟩, HE, HP3, HJ9⟩

/-! ### zztb_range2: a text by hand -/
-- uses NS RootEndN treeKeys_of treeKeys_none heap90
-- import Derived.WalkLawsBesides
def hiOk (hi k : ByteArray) : Bool := decide (hi = ⟨#[]⟩) || lt k hi
def stepG (lo hi : ByteArray) (out : List ByteArray) (k : ByteArray) : List ByteArray × Bool := if hiOk hi k = true then (if lt k lo = true then out else out ++ [k], true) else (out, false)
theorem runG {lo hi : ByteArray} : ∀ (ks out : List ByteArray), srt ks → (runK (stepG lo hi) ks out).1 = out ++ ks.filter (inR lo hi)
 | [], out, _ => by simp [runK]
 | k :: ks, out, h => by
   have h2 := List.pairwise_cons.1 h
   cases hh : hiOk hi k with
   | true =>
     simp only [runK, stepG, hh, if_true]
     rw [runG ks _ h2.2, List.filter_cons]
     have hh2 : (decide (hi = ⟨#[]⟩) || lt k hi) = true := hh
     cases hl : lt k lo <;> simp [inR, hl, hh2]
   | false =>
     simp only [runK, stepG, hh]
     have hn : (k :: ks).filter (inR lo hi) = [] := by
      rw [List.filter_eq_nil_iff]
      intro x hx hin
      have hh2 : (decide (hi = ⟨#[]⟩) || lt k hi) = false := hh
      rw [Bool.or_eq_false_iff] at hh2
      have hx3 : (decide (hi = ⟨#[]⟩) || lt x hi) = true := by
       unfold inR at hin
       rw [Bool.and_eq_true] at hin
       exact hin.2
      rw [hh2.1, Bool.false_or] at hx3
      rcases List.mem_cons.1 hx with rfl | hx
      ·rw [hh2.2] at hx3; cases hx3
      ·have := lt_trans (h2.1 x hx) hx3
       rw [hh2.2] at this
       cases this
     rw [hn]
     simp
theorem okG {lo hi : ByteArray} {B : Nat} : ∀ (ks out : List ByteArray), out.length + ks.length ≤ B → runOK (stepG lo hi) (fun o _ => o.length < B) ks out
 | [], _, _ => trivial
 | k :: ks, out, h => by
   rw [List.length_cons] at h
   refine ⟨by show out.length < B; omega, fun _ => okG ks _ ?_⟩
   unfold stepG
   split
   ·split
    ·simp only; omega
    ·simp only [List.length_append, List.length_cons, List.length_nil]; omega
   ·simp only; omega
structure TJ (g7 : Nat) (W7 : World) (out : List ByteArray) (W : World) : Prop where
 x : ∃ A c, W.heap[g7]? = some (.cells #[.slice A out.length c] 38 (0, 0)) ∧ Kd.R Kd.string 9 W W7.heap.size (fun k => W7.heap.size ≤ k) (.slice A out.length c) out
 b : NS g7 W7 W
set_option maxHeartbeats 8000000 in
set_option maxRecDepth 100000 in
theorem rangeC_any {W7 W : World} {g4 g5 g7 : Nat} {lo hi k : ByteArray} {out : List ByteArray} (h4 : W7.heap[g4]? = some (.cells #[.string lo] 9 (0, 0))) (h5 : W7.heap[g5]? = some (.cells #[.string hi] 9 (0, 0))) (l4 : g4 < g7) (l5 : g5 < g7) (l7 : g7 < W7.heap.size) (hj : TJ g7 W7 out W) (hl : out.length < 1000000000) :
   Calls Try.prog 50 #[.string k, .pointer (some ⟨g5, 0, none⟩), .pointer (some ⟨g4, 0, none⟩), .pointer (some ⟨g7, 0, none⟩)] W fun e W' => e = .returned (.bool (stepG lo hi out k).2) ∧ TJ g7 W7 (stepG lo hi out k).1 W' := by
 obtain ⟨⟨A9, c9, h7, ho⟩, hb⟩ := hj
 have x4 : W.cell? ⟨g4, 0, none⟩ = some (.string lo) := (blk_cell ((hb.b.block g4 l4).trans h4) 0).trans rfl
 have x5 : W.cell? ⟨g5, 0, none⟩ = some (.string hi) := (blk_cell ((hb.b.block g5 l5).trans h5) 0).trans rfl
 have x7 : W.cell? ⟨g7, 0, none⟩ = some (.slice A9 out.length c9) := (blk_cell h7 0).trans rfl
 have y7 := blk_frozen h7 0
 have H7 := Aside0.mk h7
 have HO := Aside0.mk ho
 have HB := Aside0.mk hb
 have HL := Aside0.mk hl
 have HZ := Aside0.mk (And.intro l7 hb.b.size)
 have HS : ∀ q : List ByteArray × Bool, q = stepG lo hi out k → Aside0 (stepG lo hi out k = q) := fun q h => ⟨h.symm⟩
 clear h4 h5 h7 ho hb hl l4 l5 l7
 cases hh : hiOk hi k with
 | false =>
   have HQ := HS (out, false) (by unfold stepG; rw [hh]; rfl)
   unfold hiOk at hh
   rw [Bool.or_eq_false_iff] at hh
   have ce : hi ≠ ⟨#[]⟩ := of_decide_eq_false hh.1
   have hlt2 : Op.bytesLess k.toList hi.toList = false := hh.2
   have hn : ¬ hi.toList = [] := fun h => ce (bs_inj (by rw [h, empty_toList]))
   have e2 : (hi.toList == ([] : List UInt8)) = false := by rw [beq_eq_false_iff_ne]; exact hn
   have e1 : (hi.toList == (⟨#[]⟩ : ByteArray).toList) = false := by rw [empty_toList]; exact e2
   have e3 : decide (hi.toList = []) = false := decide_eq_false hn
   have e4 : (hi.toList = []) = False := eq_false hn
   clear hh ce hn HS
   go_enter Try.func50, Try.ntmps50
   go_wp2_with fail
   go_ret
   rw [HQ.out]
   exact ⟨rfl, ⟨A9, c9, H7.out, HO.out⟩, HB.out⟩
 | true =>
   cases hlt : Op.bytesLess k.toList lo.toList with
   | true =>
     have HQ := HS (out, true) (by unfold stepG; rw [hh]; simp [lt, hlt])
     clear HS
     by_cases ce : hi = ⟨#[]⟩
     ·have e1 : (hi.toList == (⟨#[]⟩ : ByteArray).toList) = true := by rw [ce]; exact beq_self_eq_true _
      have e2 : (hi.toList == ([] : List UInt8)) = true := by rw [ce, empty_toList]; rfl
      have e3 : decide (hi.toList = []) = true := decide_eq_true (by rw [ce, empty_toList])
      have e4 : (hi.toList = []) = True := eq_true (by rw [ce, empty_toList])
      clear ce hh
      go_enter Try.func50, Try.ntmps50
      go_wp2_with fail
      go_ret
      rw [HQ.out]
      exact ⟨rfl, ⟨A9, c9, H7.out, HO.out⟩, HB.out⟩
     ·have hlt2 : Op.bytesLess k.toList hi.toList = true := by
       unfold hiOk at hh
       rw [decide_eq_false ce, Bool.false_or] at hh
       exact hh
      have hn : ¬ hi.toList = [] := fun h => ce (bs_inj (by rw [h, empty_toList]))
      have e2 : (hi.toList == ([] : List UInt8)) = false := by rw [beq_eq_false_iff_ne]; exact hn
      have e1 : (hi.toList == (⟨#[]⟩ : ByteArray).toList) = false := by rw [empty_toList]; exact e2
      have e3 : decide (hi.toList = []) = false := decide_eq_false hn
      have e4 : (hi.toList = []) = False := eq_false hn
      clear ce hh hn
      go_enter Try.func50, Try.ntmps50
      go_wp2_with fail
      go_ret
      rw [HQ.out]
      exact ⟨rfl, ⟨A9, c9, H7.out, HO.out⟩, HB.out⟩
   | false =>
     have HQ := HS (out ++ [k], true) (by unfold stepG; rw [hh]; simp [lt, hlt])
     clear HS
     by_cases ce : hi = ⟨#[]⟩
     ·have e1 : (hi.toList == (⟨#[]⟩ : ByteArray).toList) = true := by rw [ce]; exact beq_self_eq_true _
      have e2 : (hi.toList == ([] : List UInt8)) = true := by rw [ce, empty_toList]; rfl
      have e3 : decide (hi.toList = []) = true := decide_eq_true (by rw [ce, empty_toList])
      have e4 : (hi.toList = []) = True := eq_true (by rw [ce, empty_toList])
      clear ce hh
      go_enter Try.func50, Try.ntmps50
      go_wp2_with ((with_reducible refine gate_builtin (b := .append) (xs := #[.tmp 16, .tmp 18]) rfl ?_); at_builtin; refine Kd.R_append Kd.string (w0 := W) W7.heap.size rfl (.tmp 16) (.tmp 18) 38 9 (.string ⟨#[]⟩) 16 rfl Try.underlying38 info9 rfl (by decide) (by omega) (.slice A9 out.length c9) out k [.string k] (fun k => W7.heap.size ≤ k) (fun _ => False) rfl rfl ?aP (fun _ hk => hk.elim) ?aF ?aO ?aB ?aS ?aL ?_; (case aP => exact rfl); (case aB => exact Below.refl _ _); (case aF => exact (fun k hk => by have := HZ.out; show W7.heap.size ≤ k; omega)); (case aO => exact HO.out); (case aS => exact HZ.out.2); (case aL => have := HL.out; omega); intro v53 w9 ho hb hg hat; have K7 := Aside0.mk ((hb.block g7 HZ.out.1).trans H7.out); have HB9 := Aside0.mk (show NS g7 W7 w9 from ⟨below_same HB.out.b (below_less hb (by have := HZ.out; omega)), fun k hk hne => (hb.block k hk).trans (HB.out.k k hk hne)⟩); obtain ⟨A53, c53, rfl⟩ := Kd.R_slice ho; have HO9 := Aside0.mk ho; have z7 : w9.cell? ⟨g7, 0, none⟩ = some (.slice A9 out.length c9) := (blk_cell K7.out 0).trans rfl; have z8 := blk_frozen K7.out 0; clear ho hb hg hat HO HB)
      go_ret
      rw [HQ.out]
      exact ⟨rfl, ⟨A53, c53, blk_put K7.out 0 (.slice A53 (out.length + 1) c53) (by rw [show ((out ++ [k], true) : List ByteArray × Bool).1.length = out.length + 1 from List.length_append]; rfl), Kd.R_far HO9.out (p := ⟨g7, 0, none⟩) (fun k hk => by show k ≠ g7; have := HZ.out; have : W7.heap.size ≤ k := hk; omega) _⟩, HB9.out.set 0 _⟩
     ·have hlt2 : Op.bytesLess k.toList hi.toList = true := by
       unfold hiOk at hh
       rw [decide_eq_false ce, Bool.false_or] at hh
       exact hh
      have hn : ¬ hi.toList = [] := fun h => ce (bs_inj (by rw [h, empty_toList]))
      have e2 : (hi.toList == ([] : List UInt8)) = false := by rw [beq_eq_false_iff_ne]; exact hn
      have e1 : (hi.toList == (⟨#[]⟩ : ByteArray).toList) = false := by rw [empty_toList]; exact e2
      have e3 : decide (hi.toList = []) = false := decide_eq_false hn
      have e4 : (hi.toList = []) = False := eq_false hn
      clear ce hh hn
      go_enter Try.func50, Try.ntmps50
      go_wp2_with ((with_reducible refine gate_builtin (b := .append) (xs := #[.tmp 16, .tmp 18]) rfl ?_); at_builtin; refine Kd.R_append Kd.string (w0 := W) W7.heap.size rfl (.tmp 16) (.tmp 18) 38 9 (.string ⟨#[]⟩) 16 rfl Try.underlying38 info9 rfl (by decide) (by omega) (.slice A9 out.length c9) out k [.string k] (fun k => W7.heap.size ≤ k) (fun _ => False) rfl rfl ?aP (fun _ hk => hk.elim) ?aF ?aO ?aB ?aS ?aL ?_; (case aP => exact rfl); (case aB => exact Below.refl _ _); (case aF => exact (fun k hk => by have := HZ.out; show W7.heap.size ≤ k; omega)); (case aO => exact HO.out); (case aS => exact HZ.out.2); (case aL => have := HL.out; omega); intro v53 w9 ho hb hg hat; have K7 := Aside0.mk ((hb.block g7 HZ.out.1).trans H7.out); have HB9 := Aside0.mk (show NS g7 W7 w9 from ⟨below_same HB.out.b (below_less hb (by have := HZ.out; omega)), fun k hk hne => (hb.block k hk).trans (HB.out.k k hk hne)⟩); obtain ⟨A53, c53, rfl⟩ := Kd.R_slice ho; have HO9 := Aside0.mk ho; have z7 : w9.cell? ⟨g7, 0, none⟩ = some (.slice A9 out.length c9) := (blk_cell K7.out 0).trans rfl; have z8 := blk_frozen K7.out 0; clear ho hb hg hat HO HB)
      go_ret
      rw [HQ.out]
      exact ⟨rfl, ⟨A53, c53, blk_put K7.out 0 (.slice A53 (out.length + 1) c53) (by rw [show ((out ++ [k], true) : List ByteArray × Bool).1.length = out.length + 1 from List.length_append]; rfl), Kd.R_far HO9.out (p := ⟨g7, 0, none⟩) (fun k hk => by show k ≠ g7; have := HZ.out; have : W7.heap.size ≤ k := hk; omega) _⟩, HB9.out.set 0 _⟩
theorem TJ_wp {W7 : World} {g4 g5 g7 : Nat} {lo hi : ByteArray} (h4 : W7.heap[g4]? = some (.cells #[.string lo] 9 (0, 0))) (h5 : W7.heap[g5]? = some (.cells #[.string hi] 9 (0, 0))) (l4 : g4 < g7) (l5 : g5 < g7) (l7 : g7 < W7.heap.size) : WP (TJ g7 W7) (fun o _ => o.length < 1000000000) (stepG lo hi) 50 #[.pointer (some ⟨g5, 0, none⟩), .pointer (some ⟨g4, 0, none⟩), .pointer (some ⟨g7, 0, none⟩)] W7 (fun k => k ≠ g7) where
 fn := ⟨_, Try.func50, by kernel_rfl, by kernel_rfl⟩
 call := fun s k W h hl => rangeC_any h4 h5 l4 l5 l7 h hl
 kept := fun s W h k hk hlt => h.b.k k hlt hk
set_option maxHeartbeats 4000000 in
set_option maxRecDepth 100000 in
theorem walk_nil (f : Value) (W : World) : Calls Try.prog 49 #[.nilIface, f] W fun e W' => e = .returned (.bool true) ∧ Below W.heap.size W W' := by
 have hta := ta_n0
 have hta2 := ta_nS
 go_enter Try.func49, Try.ntmps49
 go_wp2_with fail
 go_ret
 exact ⟨rfl, Below.refl _ _⟩
set_option maxHeartbeats 8000000 in
set_option maxRecDepth 100000 in
theorem impl_TreeRange.calls (k : Nat) (A0_0 : Option Addr) (c0_0 : Nat) (l0_0 : List (S90)) (a1 : ByteArray) (a2 : ByteArray) (r : List ByteArray) (w : World) (hr0_0 : Kd.C k90 w A0_0 l0_0.length l0_0) (hc0_0 : l0_0.length ≤ c0_0) (h : m_TreeRange.f k l0_0 a1 a2 = some r) :
  Calls Try.prog 22 #[.agg #[.slice A0_0 l0_0.length c0_0], .string a1, .string a2] w fun e w' => ∃ v0_ : Value, e = .returned (v0_) ∧ Kd.R Kd.string 9 w' w.heap.size (fun _ => True) v0_ r ∧ Below w.heap.size w w' := by
 unfold m_TreeRange.f at h
 split at h
 case isFalse => cases h
 next hL =>
 injection h with h
 subst h
 have hb0 : Below w.heap.size w ((((w.alloc (.cells #[.slice A0_0 l0_0.length c0_0] 24)).alloc (.cells #[.string a1] 9)).alloc (.cells #[.string a2] 9)).alloc (.cells #[.slice none 0 0] 38)) := below_alloc (below_alloc (below_alloc (below_alloc (Below.refl _ _) _) _) _) _
 have K3 := Aside0.mk (blk_alloc (blk_alloc (blk_alloc (blk_new w (.cells #[.slice A0_0 l0_0.length c0_0] 24)) (.cells #[.string a1] 9)) (.cells #[.string a2] 9)) (.cells #[.slice none 0 0] 38))
 have K4 := Aside0.mk (blk_alloc (blk_alloc (blk_new (w.alloc (.cells #[.slice A0_0 l0_0.length c0_0] 24)) (.cells #[.string a1] 9)) (.cells #[.string a2] 9)) (.cells #[.slice none 0 0] 38))
 have K5 := Aside0.mk (blk_alloc (blk_new ((w.alloc (.cells #[.slice A0_0 l0_0.length c0_0] 24)).alloc (.cells #[.string a1] 9)) (.cells #[.string a2] 9)) (.cells #[.slice none 0 0] 38))
 have K7 := Aside0.mk (blk_new (((w.alloc (.cells #[.slice A0_0 l0_0.length c0_0] 24)).alloc (.cells #[.string a1] 9)).alloc (.cells #[.string a2] 9)) (.cells #[.slice none 0 0] 38))
 have HZ := Aside0.mk (show ((((w.alloc (.cells #[.slice A0_0 l0_0.length c0_0] 24)).alloc (.cells #[.string a1] 9)).alloc (.cells #[.string a2] 9)).alloc (.cells #[.slice none 0 0] 38)).heap.size = w.heap.size + 4 by simp)
 rw [show (w.alloc (.cells #[.slice A0_0 l0_0.length c0_0] 24)).heap.size = w.heap.size + 1 by simp] at K4
 rw [show ((w.alloc (.cells #[.slice A0_0 l0_0.length c0_0] 24)).alloc (.cells #[.string a1] 9)).heap.size = w.heap.size + 1 + 1 by simp] at K5
 rw [show (((w.alloc (.cells #[.slice A0_0 l0_0.length c0_0] 24)).alloc (.cells #[.string a1] 9)).alloc (.cells #[.string a2] 9)).heap.size = w.heap.size + 1 + 1 + 1 by simp] at K7
 have HB := Aside0.mk hb0
 have HF := Aside0.mk (Kd.F_below (Kd.C_F heap90 hr0_0) hb0)
 have HL := Aside0.mk (And.intro hL hc0_0)
 have hu24 := Try.underlying24
 have hu38 := Try.underlying38
 clear hb0 hL hr0_0 hc0_0
 go_enter Try.func22, Try.ntmps22
 go_upto_region 2 with (fail)
 generalize ((((w.alloc (.cells #[.slice A0_0 l0_0.length c0_0] 24)).alloc (.cells #[.string a1] 9)).alloc (.cells #[.string a2] 9)).alloc (.cells #[.slice none 0 0] 38)) = W0 at *
 obtain ⟨n0, hn0⟩ : ∃ n0, n0 = w.heap.size := ⟨_, rfl⟩
 rw [← hn0] at K3 K4 K5 K7 HZ HF HB ⊢
 have HN := Aside0.mk hn0
 clear hn0
 have x0 : W0.cell? ⟨n0, 0, none⟩ = some (.slice A0_0 l0_0.length c0_0) := (blk_cell K3.out 0).trans rfl
 go_wp2_with fail
 refine (root_at n0 l0_0 HL.out.1.1 A0_0 c0_0 W0 HF.out (by have := HZ.out; omega) HL.out.2).mono ?_
 rintro e W5 ⟨hb, hend⟩
 have HB5 := Aside0.mk (below_lo HB.out hb (by have := HZ.out; omega))
 replace K4 := Aside0.mk ((hb.block _ (by have := HZ.out; omega)).trans K4.out)
 replace K5 := Aside0.mk ((hb.block _ (by have := HZ.out; omega)).trans K5.out)
 replace K7 := Aside0.mk ((hb.block _ (by have := HZ.out; omega)).trans K7.out)
 have HZ5 := Aside0.mk hb.size
 clear hb x0 K3
 rcases hend with ⟨rfl, hno⟩ | ⟨d, t, tp, b, hok, rfl, hK⟩
 ·have HV := Aside0.mk (show rangeM l0_0 a1 a2 = [] by unfold rangeM; rw [treeKeys_none hno])
  go_wp2_with fail
  refine (walk_nil _ W5).mono ?_
  rintro e W6 ⟨rfl, hb⟩
  replace K7 := Aside0.mk (blk_below K7.out hb)
  have HB6 := Aside0.mk (below_lo HB5.out hb (by have := HB5.out.size; have := HN.out; omega))
  have x7 : W6.cell? ⟨n0 + 1 + 1 + 1, 0, none⟩ = some (.slice none 0 0) := (blk_cell K7.out 0).trans rfl
  clear hb
  go_wp2_with fail
  go_ret
  rw [HV.out]
  exact ⟨_, rfl, Kd.R_nil _ _ _ _ _, by rw [← HN.out]; exact HB6.out⟩
 ·have HV := Aside0.mk (show rangeM l0_0 a1 a2 = (keysD d t).filter (inR a1 a2) by unfold rangeM; rw [treeKeys_of hok])
  have HK := Aside0.mk hK
  have HOK := Aside0.mk hok
  clear hK hok
  have HJ := Aside0.mk (TJ.mk (g7 := n0 + 1 + 1 + 1) (W7 := W5) (out := []) ⟨none, 0, K7.out, Kd.R_nil _ _ _ _ _⟩ (NS.refl _ _))
  go_wp2_with fail
  refine (walkP_any (TJ_wp K4.out K5.out (by omega) (by omega) (by have := HZ.out; have := HZ5.out; omega)) d t (ifP tp b) (Kd.FK_mono HK.out (fun k hk => by show k ≠ n0 + 1 + 1 + 1; have := HZ.out; have : k < n0 ∨ W0.heap.size ≤ k := hk; omega)) [] W5 HJ.out (okG _ _ (by have := keysD_le HOK.out.1; have := pow4 _ _ HOK.out.depth; simp only [List.length_nil]; omega))).mono ?_
  rintro e W6 ⟨rfl, hj⟩
  have HR := Aside0.mk (runG (lo := a1) (hi := a2) (keysD d t) [] (ascK_srt HOK.out.2.2.2))
  rw [HR.out] at hj
  obtain ⟨⟨A, c, h7, ho⟩, hb⟩ := hj
  have HB6 := Aside0.mk (below_same HB5.out (below_less hb.b (by omega)))
  have HO := Aside0.mk (Kd.R_mono (ok' := fun _ => True) (Kd.R_lower (base' := w.heap.size) ho (by have := HN.out; have := HZ.out; have := HZ5.out; omega)) (fun _ _ => trivial))
  have x7 : W6.cell? ⟨n0 + 1 + 1 + 1, 0, none⟩ = some (.slice A ([] ++ (keysD d t).filter (inR a1 a2)).length c) := (blk_cell h7 0).trans rfl
  clear h7 ho hb
  go_wp2_with fail
  go_ret
  rw [HV.out]
  exact ⟨_, rfl, HO.out, by rw [← HN.out]; exact HB6.out⟩

/-! ### zzz_guard1_TreeRange: a text by hand -/
set_option maxHeartbeats 4000000 in
set_option maxRecDepth 100000 in
theorem guard1_FnExactTreeRange (A0_0 : Option Addr) (c0_0 : Nat) (l0_0 : List S98) (a1 : ByteArray) (a2 : ByteArray) (r1 : Int) (w : World)
  (hr0_0 : Kd.C k98 w A0_0 l0_0.length l0_0) (hc0_0 : l0_0.length ≤ c0_0)
  (E2 : Ev (fun k => laws_szTree.f k l0_0 1048576) r1) (E2p : r1 < 0) (G1 : a1.size ≤ 1048576) (G2 : a2.size ≤ 1048576) :
  Calls Try.prog 6 #[.agg #[.slice A0_0 l0_0.length c0_0], .string a1, .string a2] w fun e w' => e = .returned (.bool true) ∧ Below w.heap.size w w' := by
 obtain ⟨k_E2, h_E2⟩ := E2.rounds
 have H_E2 := Aside0.mk h_E2
 clear E2 h_E2
 have E2pb : decide (r1 < 0) = true := decide_eq_true (by omega)
 have HR0_0 := Aside0.mk hr0_0
 have HC0_0 := Aside0.mk hc0_0
 clear hr0_0 hc0_0
 have hu31 := Try.underlying31
 have HB := Aside0.mk (Below.refl w.heap.size w)
 go_enter Try.func6, Try.ntmps6
 go_wp2_with fail
 refine (laws_szTree.calls k_E2 _ _ l0_0 1048576 r1 _ (Kd.C_below HR0_0.out (below_alloc HB.out _)) HC0_0.out H_E2.out).mono ?_
 rintro e w1 ⟨rfl, gb⟩
 have hz1 : w.heap.size + 1 ≤ w1.heap.size := by have := gb.size; first | omega | (simp at this; omega)
 have N_HB := Aside0.mk (below_step (below_alloc HB.out _) gb)
 have K3 := Aside0.mk (show w1.heap[w.heap.size]? = some (.cells #[.slice A0_0 l0_0.length c0_0] 31 (0, 0)) from by have := blk_below (blk_new _ _) gb; simpa using this)
 clear HB
 have HB := N_HB
 clear N_HB
 clear gb
 go_wp2
 go_ret
 exact ⟨rfl, by first | exact HB.out | exact below_alloc HB.out _ | exact below_alloc (below_alloc HB.out _) _ | exact below_alloc (below_alloc (below_alloc HB.out _) _) _⟩

/-! ### zzz_guardL1_TreeRange: a text by hand -/
set_option maxHeartbeats 4000000 in
set_option maxRecDepth 100000 in
theorem guardL1_FnExactTreeRange (A0_0 : Option Addr) (c0_0 : Nat) (l0_0 : List S98) (a1 : ByteArray) (a2 : ByteArray)  (w : World)
  (hr0_0 : Kd.C k98 w A0_0 l0_0.length l0_0) (hc0_0 : l0_0.length ≤ c0_0)
   (G1 : 1048576 < a1.size) :
  Calls Try.prog 6 #[.agg #[.slice A0_0 l0_0.length c0_0], .string a1, .string a2] w fun e w' => e = .returned (.bool true) ∧ Below w.heap.size w w' := by
 have HR0_0 := Aside0.mk hr0_0
 have HC0_0 := Aside0.mk hc0_0
 clear hr0_0 hc0_0
 have HB := Aside0.mk (Below.refl w.heap.size w)
 go_enter Try.func6, Try.ntmps6
 go_wp2
 go_ret
 exact ⟨rfl, by first | exact HB.out | exact below_alloc HB.out _ | exact below_alloc (below_alloc HB.out _) _ | exact below_alloc (below_alloc (below_alloc HB.out _) _) _⟩

/-! ### zzz_guardL2_TreeRange: a text by hand -/
set_option maxHeartbeats 4000000 in
set_option maxRecDepth 100000 in
theorem guardL2_FnExactTreeRange (A0_0 : Option Addr) (c0_0 : Nat) (l0_0 : List S98) (a1 : ByteArray) (a2 : ByteArray)  (w : World)
  (hr0_0 : Kd.C k98 w A0_0 l0_0.length l0_0) (hc0_0 : l0_0.length ≤ c0_0)
   (G1 : a1.size ≤ 1048576) (G2 : 1048576 < a2.size) :
  Calls Try.prog 6 #[.agg #[.slice A0_0 l0_0.length c0_0], .string a1, .string a2] w fun e w' => e = .returned (.bool true) ∧ Below w.heap.size w w' := by
 have HR0_0 := Aside0.mk hr0_0
 have HC0_0 := Aside0.mk hc0_0
 clear hr0_0 hc0_0
 have HB := Aside0.mk (Below.refl w.heap.size w)
 go_enter Try.func6, Try.ntmps6
 go_wp2
 go_ret
 exact ⟨rfl, by first | exact HB.out | exact below_alloc HB.out _ | exact below_alloc (below_alloc HB.out _) _ | exact below_alloc (below_alloc (below_alloc HB.out _) _) _⟩

/-! ### zzz_walk_TreeRange: a text by hand -/
set_option maxHeartbeats 4000000 in
set_option maxRecDepth 100000 in
theorem walk_FnExactTreeRange (A0_0 : Option Addr) (c0_0 : Nat) (l0_0 : List S98) (a1 : ByteArray) (a2 : ByteArray) (r1 : Int) (r3 : List S90) (r6 : List ByteArray) (m15 : Int) (l16 : List S90) (m18 : Int) (l19 : List ByteArray) (w : World)
  (hr0_0 : Kd.C k98 w A0_0 l0_0.length l0_0) (hc0_0 : l0_0.length ≤ c0_0)
  (E2 : Ev (fun k => laws_szTree.f k l0_0 1048576) r1) (E2p : 0 ≤ r1) (E4 : Ev (fun k => laws_toTree.f k l0_0) r3) (E7 : Ev (fun k => m_TreeRange.f k r3 a1 a2) r6) (E10 : Ev (fun k => m_TreeRange.f k r3 a1 a2) r6) (E12 : Ev (fun k => laws_eqStringS.f k r6 r6) true) (E14 : Ev (fun k => laws_eqTree.f k r3 r3) true) (E17 : Ev (fun k => laws_markTNodeS.f k r3 1) (m15, l16)) (Pm15 : 0 ≤ m15) (E20 : Ev (fun k => laws_markStringS.f k r6 1) (m18, l19)) (Pm18 : 0 ≤ m18) (E21 : Ev (fun k => laws_heldStringS.f k l19 1) m18) (G1 : a1.size ≤ 1048576) (G2 : a2.size ≤ 1048576) :
  Calls Try.prog 6 #[.agg #[.slice A0_0 l0_0.length c0_0], .string a1, .string a2] w fun e w' => e = .returned (.bool true) ∧ Below w.heap.size w w' := by
 obtain ⟨k_E2, h_E2⟩ := E2.rounds
 have H_E2 := Aside0.mk h_E2
 clear E2 h_E2
 obtain ⟨k_E4, h_E4⟩ := E4.rounds
 have H_E4 := Aside0.mk h_E4
 clear E4 h_E4
 obtain ⟨k_E7, h_E7⟩ := E7.rounds
 have H_E7 := Aside0.mk h_E7
 clear E7 h_E7
 obtain ⟨k_E10, h_E10⟩ := E10.rounds
 have H_E10 := Aside0.mk h_E10
 clear E10 h_E10
 obtain ⟨k_E12, h_E12⟩ := E12.rounds
 have H_E12 := Aside0.mk h_E12
 clear E12 h_E12
 obtain ⟨k_E14, h_E14⟩ := E14.rounds
 have H_E14 := Aside0.mk h_E14
 clear E14 h_E14
 obtain ⟨k_E17, h_E17⟩ := E17.rounds
 have H_E17 := Aside0.mk h_E17
 clear E17 h_E17
 obtain ⟨k_E20, h_E20⟩ := E20.rounds
 have H_E20 := Aside0.mk h_E20
 clear E20 h_E20
 obtain ⟨k_E21, h_E21⟩ := E21.rounds
 have H_E21 := Aside0.mk h_E21
 clear E21 h_E21
 have E2pb : decide (r1 < 0) = false := decide_eq_false (by omega)
 have Pm15b : decide (m15 < 0) = false := decide_eq_false (by omega)
 have Pm18b : decide (m18 < 0) = false := decide_eq_false (by omega)
 have HR0_0 := Aside0.mk hr0_0
 have HC0_0 := Aside0.mk hc0_0
 clear hr0_0 hc0_0
 have hu24 := Try.underlying24
 have hu31 := Try.underlying31
 have HB := Aside0.mk (Below.refl w.heap.size w)
 go_enter Try.func6, Try.ntmps6
 go_wp2_with fail
 refine (laws_szTree.calls k_E2 _ _ l0_0 1048576 r1 _ (Kd.C_below HR0_0.out (below_alloc HB.out _)) HC0_0.out H_E2.out).mono ?_
 rintro e w1 ⟨rfl, gb⟩
 have hz1 : w.heap.size + 1 ≤ w1.heap.size := by have := gb.size; first | omega | (simp at this; omega)
 have N_HB := Aside0.mk (below_step (below_alloc HB.out _) gb)
 have K3 := Aside0.mk (show w1.heap[w.heap.size]? = some (.cells #[.slice A0_0 l0_0.length c0_0] 31 (0, 0)) from by have := blk_below (blk_new _ _) gb; simpa using this)
 clear HB
 have HB := N_HB
 clear N_HB
 clear gb
 have y3 : w.heap.size < w1.heap.size := by omega
 have z3_0 : w1.cell? ⟨w.heap.size, 0, none⟩ = some (.slice A0_0 l0_0.length c0_0) := (blk_cell K3.out 0).trans rfl
 go_wp2_with fail
 clear y3 z3_0
 refine (laws_toTree.calls k_E4 _ _ l0_0 r3 _ (Kd.C_below HR0_0.out HB.out) HC0_0.out H_E4.out).mono ?_
 rintro e w2 ⟨q5u0, rfl, q5g0, gb⟩
 have q5X0 := Aside0.mk (S_iv q5g0 w.heap.size (w1.heap.size) (by have := HB.out.size; first | (simp; done) | (simp; omega) | omega) (by simp))
 clear q5g0
 obtain ⟨q5A0, q5c0, rfl⟩ := Kd.S_slice q5X0.out
 have hz2 : w1.heap.size + 0 ≤ w2.heap.size := by have := gb.size; first | omega | (simp at this; omega)
 have N_HB := Aside0.mk (below_step HB.out gb)
 have N_K3 := Aside0.mk (blk_below K3.out gb)
 clear HB K3
 have HB := N_HB
 have K3 := N_K3
 clear N_HB N_K3
 clear gb
 have y3 : w.heap.size < w2.heap.size := by omega
 have z3_0 : w2.cell? ⟨w.heap.size, 0, none⟩ = some (.slice A0_0 l0_0.length c0_0) := (blk_cell K3.out 0).trans rfl
 go_wp2_with fail
 clear y3 z3_0
 refine (spec_TreeRange.calls k_E7 _ _ r3 a1 a2 r6 _ (Kd.S_reads' q5X0.out).2.2 (Kd.S_reads' q5X0.out).2.1 H_E7.out).mono ?_
 rintro e w3 ⟨q8u0, rfl, q8g0, gb⟩
 have q8X0 := Aside0.mk (R_iv q8g0 w.heap.size (w2.heap.size) (by have := HB.out.size; first | (simp; done) | (simp; omega) | omega) (by simp))
 clear q8g0
 obtain ⟨q8A0, q8c0, rfl⟩ := Kd.R_slice q8X0.out
 have hz3 : w2.heap.size + 0 ≤ w3.heap.size := by have := gb.size; first | omega | (simp at this; omega)
 have N_HB := Aside0.mk (below_step HB.out gb)
 have N_q5X0 := Aside0.mk (Kd.S_below q5X0.out gb)
 have N_K3 := Aside0.mk (blk_below K3.out gb)
 clear HB q5X0 K3
 have HB := N_HB
 have q5X0 := N_q5X0
 have K3 := N_K3
 clear N_HB N_q5X0 N_K3
 clear gb
 have y3 : w.heap.size < w3.heap.size := by omega
 have z3_0 : w3.cell? ⟨w.heap.size, 0, none⟩ = some (.slice A0_0 l0_0.length c0_0) := (blk_cell K3.out 0).trans rfl
 go_wp2_with fail
 clear y3 z3_0
 refine (laws_toTree.calls k_E4 _ _ l0_0 r3 _ (Kd.C_below HR0_0.out HB.out) HC0_0.out H_E4.out).mono ?_
 rintro e w4 ⟨q9u0, rfl, q9g0, gb⟩
 have q9X0 := Aside0.mk (S_iv q9g0 w.heap.size (w3.heap.size) (by have := HB.out.size; first | (simp; done) | (simp; omega) | omega) (by simp))
 clear q9g0
 obtain ⟨q9A0, q9c0, rfl⟩ := Kd.S_slice q9X0.out
 have hz4 : w3.heap.size + 0 ≤ w4.heap.size := by have := gb.size; first | omega | (simp at this; omega)
 have N_HB := Aside0.mk (below_step HB.out gb)
 have N_q5X0 := Aside0.mk (Kd.S_below q5X0.out gb)
 have N_q8X0 := Aside0.mk (Kd.R_below q8X0.out gb)
 have N_K3 := Aside0.mk (blk_below K3.out gb)
 clear HB q5X0 q8X0 K3
 have HB := N_HB
 have q5X0 := N_q5X0
 have q8X0 := N_q8X0
 have K3 := N_K3
 clear N_HB N_q5X0 N_q8X0 N_K3
 clear gb
 go_wp2_with fail
 refine (impl_TreeRange.calls k_E10 _ _ r3 a1 a2 r6 _ (Kd.C_alloc (Kd.S_reads' q9X0.out).2.2 _) (Kd.S_reads' q9X0.out).2.1 H_E10.out).mono ?_
 rintro e w5 ⟨q11u0, rfl, q11g0, gb⟩
 have q11X0 := Aside0.mk (R_iv q11g0 w.heap.size (w4.heap.size + 1) (by have := HB.out.size; first | (simp; done) | (simp; omega) | omega) (by simp))
 clear q11g0
 obtain ⟨q11A0, q11c0, rfl⟩ := Kd.R_slice q11X0.out
 have hz5 : w4.heap.size + 1 ≤ w5.heap.size := by have := gb.size; first | omega | (simp at this; omega)
 have N_HB := Aside0.mk (below_step (below_alloc HB.out _) gb)
 have N_q5X0 := Aside0.mk (Kd.S_below (Kd.S_alloc q5X0.out _) gb)
 have N_q8X0 := Aside0.mk (Kd.R_below (Kd.R_alloc q8X0.out _) gb)
 have N_q9X0 := Aside0.mk (Kd.S_below (Kd.S_alloc q9X0.out _) gb)
 have N_K3 := Aside0.mk (blk_below (blk_alloc K3.out _) gb)
 have K9 := Aside0.mk (show w5.heap[w4.heap.size]? = some (.cells #[.slice q9A0 r3.length q9c0] 24 (0, 0)) from by have := blk_below (blk_new _ _) gb; simpa using this)
 clear HB q5X0 q8X0 q9X0 K3
 have HB := N_HB
 have q5X0 := N_q5X0
 have q8X0 := N_q8X0
 have q9X0 := N_q9X0
 have K3 := N_K3
 clear N_HB N_q5X0 N_q8X0 N_q9X0 N_K3
 clear gb
 go_wp2_with fail
 refine (laws_eqStringS.calls k_E12 _ _ r6 _ _ r6 true _ (Kd.R_reads' q11X0.out).2.2 (Kd.R_reads' q11X0.out).2.1 (Kd.R_reads' q8X0.out).2.2 (Kd.R_reads' q8X0.out).2.1 H_E12.out).mono ?_
 rintro e w6 ⟨rfl, gb⟩
 replace gb := drawn_below gb
 have hz6 : w5.heap.size + 0 ≤ w6.heap.size := by have := gb.size; first | omega | (simp at this; omega)
 have N_HB := Aside0.mk (below_step HB.out gb)
 have N_q5X0 := Aside0.mk (Kd.S_below q5X0.out gb)
 have N_q8X0 := Aside0.mk (Kd.R_below q8X0.out gb)
 have N_q9X0 := Aside0.mk (Kd.S_below q9X0.out gb)
 have N_q11X0 := Aside0.mk (Kd.R_below q11X0.out gb)
 have N_K3 := Aside0.mk (blk_below K3.out gb)
 have N_K9 := Aside0.mk (blk_below K9.out gb)
 clear HB q5X0 q8X0 q9X0 q11X0 K3 K9
 have HB := N_HB
 have q5X0 := N_q5X0
 have q8X0 := N_q8X0
 have q9X0 := N_q9X0
 have q11X0 := N_q11X0
 have K3 := N_K3
 have K9 := N_K9
 clear N_HB N_q5X0 N_q8X0 N_q9X0 N_q11X0 N_K3 N_K9
 clear gb
 have y9 : w4.heap.size < w6.heap.size := by omega
 have z9_0 : w6.cell? ⟨w4.heap.size, 0, none⟩ = some (.slice q9A0 r3.length q9c0) := (blk_cell K9.out 0).trans rfl
 have y3 : w.heap.size < w6.heap.size := by omega
 have z3_0 : w6.cell? ⟨w.heap.size, 0, none⟩ = some (.slice A0_0 l0_0.length c0_0) := (blk_cell K3.out 0).trans rfl
 go_wp2_with fail
 go_region_held3 (fun w' => w'.cell? ⟨w4.heap.size, 0, none⟩ = some (.slice q9A0 r3.length q9c0) ∧ w'.cell? ⟨w.heap.size, 0, none⟩ = some (.slice A0_0 l0_0.length c0_0)) (go_keep) (first | (go_at_call 17; (refine (laws_toTree.calls k_E4 _ _ l0_0 r3 _ (Kd.C_below HR0_0.out (below_drew HB.out)) HC0_0.out H_E4.out).mono ?_); (rintro e w7 ⟨q13u0, rfl, q13g0, gb⟩); (have q13X0 := Aside0.mk (S_iv q13g0 w.heap.size (w6.heap.size) (by have := HB.out.size; first | (simp; done) | (simp; omega) | omega) (by simp))); (clear q13g0); (obtain ⟨q13A0, q13c0, rfl⟩ := Kd.S_slice q13X0.out); (have hz7 : w6.heap.size + 0 ≤ w7.heap.size := by have := gb.size; first | omega | (simp at this; omega)); (have N_HB := Aside0.mk (below_step (below_drew HB.out) gb)); (have N_q5X0 := Aside0.mk (Kd.S_below (Kd.S_drew q5X0.out) gb)); (have N_q8X0 := Aside0.mk (Kd.R_below (Kd.R_drew q8X0.out) gb)); (have N_q9X0 := Aside0.mk (Kd.S_below (Kd.S_drew q9X0.out) gb)); (have N_q11X0 := Aside0.mk (Kd.R_below (Kd.R_drew q11X0.out) gb)); (have N_K3 := Aside0.mk (blk_below (blk_drew K3.out) gb)); (have N_K9 := Aside0.mk (blk_below (blk_drew K9.out) gb)); (clear HB q5X0 q8X0 q9X0 q11X0 K3 K9); (have HB := N_HB); (have q5X0 := N_q5X0); (have q8X0 := N_q8X0); (have q9X0 := N_q9X0); (have q11X0 := N_q11X0); (have K3 := N_K3); (have K9 := N_K9); (clear N_HB N_q5X0 N_q8X0 N_q9X0 N_q11X0 N_K3 N_K9); (clear gb); (clear y9 z9_0 y3 z3_0); (have y9 : w4.heap.size < w7.heap.size := by omega); (have z9_0 : w7.cell? ⟨w4.heap.size, 0, none⟩ = some (.slice q9A0 r3.length q9c0) := (blk_cell K9.out 0).trans rfl); (have y3 : w.heap.size < w7.heap.size := by omega); (have z3_0 : w7.cell? ⟨w.heap.size, 0, none⟩ = some (.slice A0_0 l0_0.length c0_0) := (blk_cell K3.out 0).trans rfl)) | (go_at_call 12; (refine (laws_eqTree.calls k_E14 _ _ r3 _ _ r3 true _ (Kd.S_reads' q9X0.out).2.2 (Kd.S_reads' q9X0.out).2.1 (Kd.S_reads' q13X0.out).2.2 (Kd.S_reads' q13X0.out).2.1 H_E14.out).mono ?_); (rintro e w8 ⟨rfl, gb⟩); (have hz8 : w7.heap.size + 0 ≤ w8.heap.size := by have := gb.size; first | omega | (simp at this; omega)); (have N_HB := Aside0.mk (below_step HB.out gb)); (have N_q5X0 := Aside0.mk (Kd.S_below q5X0.out gb)); (have N_q8X0 := Aside0.mk (Kd.R_below q8X0.out gb)); (have N_q9X0 := Aside0.mk (Kd.S_below q9X0.out gb)); (have N_q11X0 := Aside0.mk (Kd.R_below q11X0.out gb)); (have N_q13X0 := Aside0.mk (Kd.S_below q13X0.out gb)); (have N_K3 := Aside0.mk (blk_below K3.out gb)); (have N_K9 := Aside0.mk (blk_below K9.out gb)); (clear HB q5X0 q8X0 q9X0 q11X0 q13X0 K3 K9); (have HB := N_HB); (have q5X0 := N_q5X0); (have q8X0 := N_q8X0); (have q9X0 := N_q9X0); (have q11X0 := N_q11X0); (have q13X0 := N_q13X0); (have K3 := N_K3); (have K9 := N_K9); (clear N_HB N_q5X0 N_q8X0 N_q9X0 N_q11X0 N_q13X0 N_K3 N_K9); (clear gb); (clear y9 z9_0 y3 z3_0); (have y9 : w4.heap.size < w8.heap.size := by omega); (have z9_0 : w8.cell? ⟨w4.heap.size, 0, none⟩ = some (.slice q9A0 r3.length q9c0) := (blk_cell K9.out 0).trans rfl); (have y3 : w.heap.size < w8.heap.size := by omega); (have z3_0 : w8.cell? ⟨w.heap.size, 0, none⟩ = some (.slice A0_0 l0_0.length c0_0) := (blk_cell K3.out 0).trans rfl)))
 clear y9 z9_0 y3 z3_0
 have y9 : w4.heap.size < w8.heap.size := by omega
 have z9_0 : w8.cell? ⟨w4.heap.size, 0, none⟩ = some (.slice q9A0 r3.length q9c0) := (blk_cell K9.out 0).trans rfl
 go_wp2_with fail
 clear y9 z9_0
 refine (laws_markTree.own k_E17 (w3.heap.size) (w4.heap.size) _ r3 1 m15 l16 w _ (by have := HB.out.size; omega) HB.out q9X0.out H_E17.out).mono ?_
 rintro e w9 ⟨rfl, g_0, gB, hk⟩
 have hz9 : w8.heap.size + 0 ≤ w9.heap.size := by have := hk.1; first | omega | (simp at this; omega)
 have N_q5X0 := Aside0.mk (Kd.S_kept q5X0.out hk (fun k hk1 hk2 => by have := hk1.1; omega))
 have N_q8X0 := Aside0.mk (Kd.R_kept q8X0.out hk (fun k hk1 hk2 => by have := hk1.1; omega))
 have N_q11X0 := Aside0.mk (Kd.R_kept q11X0.out hk (fun k hk1 hk2 => by have := hk1.1; omega))
 have N_q13X0 := Aside0.mk (Kd.S_kept q13X0.out hk (fun k hk1 hk2 => by have := hk1.1; omega))
 have N_K3 := Aside0.mk (blk_kept K3.out hk (fun hk2 => by omega))
 have N_K9 := Aside0.mk (blk_kept K9.out hk (fun hk2 => by omega))
 clear q5X0 q8X0 q11X0 q13X0 K3 K9
 have q5X0 := N_q5X0
 have q8X0 := N_q8X0
 have q11X0 := N_q11X0
 have q13X0 := N_q13X0
 have K3 := N_K3
 have K9 := N_K9
 clear N_q5X0 N_q8X0 N_q11X0 N_q13X0 N_K3 N_K9
 clear HB hk
 have HB := Aside0.mk gB
 clear gB
 clear q9X0
 have q9X0 := Aside0.mk g_0
 clear g_0
 have ev_ : (.slice q9A0 r3.length q9c0 : Value) = .slice q9A0 l16.length q9c0 := by rw [(Kd.S_reads' q9X0.out).1]
 try rw [ev_] at q9X0
 try rw [ev_] at K9
 try rw [ev_]
 clear ev_
 clear q9X0 K9
 go_wp2_with fail
 refine (laws_eqStringS.calls k_E12 _ _ r6 _ _ r6 true _ (Kd.R_reads' q11X0.out).2.2 (Kd.R_reads' q11X0.out).2.1 (Kd.R_reads' q8X0.out).2.2 (Kd.R_reads' q8X0.out).2.1 H_E12.out).mono ?_
 rintro e w10 ⟨rfl, gb⟩
 replace gb := drawn_below gb
 have hz10 : w9.heap.size + 0 ≤ w10.heap.size := by have := gb.size; first | omega | (simp at this; omega)
 have N_HB := Aside0.mk (below_step HB.out gb)
 have N_q5X0 := Aside0.mk (Kd.S_below q5X0.out gb)
 have N_q8X0 := Aside0.mk (Kd.R_below q8X0.out gb)
 have N_q11X0 := Aside0.mk (Kd.R_below q11X0.out gb)
 have N_q13X0 := Aside0.mk (Kd.S_below q13X0.out gb)
 have N_K3 := Aside0.mk (blk_below K3.out gb)
 clear HB q5X0 q8X0 q11X0 q13X0 K3
 have HB := N_HB
 have q5X0 := N_q5X0
 have q8X0 := N_q8X0
 have q11X0 := N_q11X0
 have q13X0 := N_q13X0
 have K3 := N_K3
 clear N_HB N_q5X0 N_q8X0 N_q11X0 N_q13X0 N_K3
 clear gb
 go_wp2_with fail
 refine (laws_markStringS.own k_E20 (w4.heap.size + 1) (w5.heap.size) _ r6 1 m18 l19 w _ (by have := HB.out.size; omega) HB.out q11X0.out H_E20.out).mono ?_
 rintro e w11 ⟨rfl, g_0, gB, hk⟩
 have hz11 : w10.heap.size + 0 ≤ w11.heap.size := by have := hk.1; first | omega | (simp at this; omega)
 have N_q5X0 := Aside0.mk (Kd.S_kept q5X0.out hk (fun k hk1 hk2 => by have := hk1.1; omega))
 have N_q8X0 := Aside0.mk (Kd.R_kept q8X0.out hk (fun k hk1 hk2 => by have := hk1.1; omega))
 have N_q13X0 := Aside0.mk (Kd.S_kept q13X0.out hk (fun k hk1 hk2 => by have := hk1.1; omega))
 have N_K3 := Aside0.mk (blk_kept K3.out hk (fun hk2 => by omega))
 clear q5X0 q8X0 q13X0 K3
 have q5X0 := N_q5X0
 have q8X0 := N_q8X0
 have q13X0 := N_q13X0
 have K3 := N_K3
 clear N_q5X0 N_q8X0 N_q13X0 N_K3
 clear HB hk
 have HB := Aside0.mk gB
 clear gB
 clear q11X0
 have q11X0 := Aside0.mk g_0
 clear g_0
 have ev_ : (.slice q11A0 r6.length q11c0 : Value) = .slice q11A0 l19.length q11c0 := by rw [(Kd.R_reads' q11X0.out).1]
 try rw [ev_] at q11X0
 try rw [ev_]
 clear ev_
 go_wp2_with fail
 refine (laws_heldStringS.calls k_E21 _ _ l19 1 m18 _ (Kd.R_reads' q11X0.out).2.2 (Kd.R_reads' q11X0.out).2.1 H_E21.out).mono ?_
 rintro e w12 ⟨rfl, gb⟩
 have hz12 : w11.heap.size + 0 ≤ w12.heap.size := by have := gb.size; first | omega | (simp at this; omega)
 have N_HB := Aside0.mk (below_step HB.out gb)
 have N_q5X0 := Aside0.mk (Kd.S_below q5X0.out gb)
 have N_q8X0 := Aside0.mk (Kd.R_below q8X0.out gb)
 have N_q11X0 := Aside0.mk (Kd.R_below q11X0.out gb)
 have N_q13X0 := Aside0.mk (Kd.S_below q13X0.out gb)
 have N_K3 := Aside0.mk (blk_below K3.out gb)
 clear HB q5X0 q8X0 q11X0 q13X0 K3
 have HB := N_HB
 have q5X0 := N_q5X0
 have q8X0 := N_q8X0
 have q11X0 := N_q11X0
 have q13X0 := N_q13X0
 have K3 := N_K3
 clear N_HB N_q5X0 N_q8X0 N_q11X0 N_q13X0 N_K3
 clear gb
 have y3 : w.heap.size < w12.heap.size := by omega
 have z3_0 : w12.cell? ⟨w.heap.size, 0, none⟩ = some (.slice A0_0 l0_0.length c0_0) := (blk_cell K3.out 0).trans rfl
 go_wp2_with fail
 clear y3 z3_0
 refine (laws_toTree.calls k_E4 _ _ l0_0 r3 _ (Kd.C_below HR0_0.out HB.out) HC0_0.out H_E4.out).mono ?_
 rintro e w13 ⟨q22u0, rfl, q22g0, gb⟩
 have q22X0 := Aside0.mk (S_iv q22g0 w.heap.size (w12.heap.size) (by have := HB.out.size; first | (simp; done) | (simp; omega) | omega) (by simp))
 clear q22g0
 obtain ⟨q22A0, q22c0, rfl⟩ := Kd.S_slice q22X0.out
 have hz13 : w12.heap.size + 0 ≤ w13.heap.size := by have := gb.size; first | omega | (simp at this; omega)
 have N_HB := Aside0.mk (below_step HB.out gb)
 have N_q5X0 := Aside0.mk (Kd.S_below q5X0.out gb)
 have N_q8X0 := Aside0.mk (Kd.R_below q8X0.out gb)
 have N_q11X0 := Aside0.mk (Kd.R_below q11X0.out gb)
 have N_q13X0 := Aside0.mk (Kd.S_below q13X0.out gb)
 have N_K3 := Aside0.mk (blk_below K3.out gb)
 clear HB q5X0 q8X0 q11X0 q13X0 K3
 have HB := N_HB
 have q5X0 := N_q5X0
 have q8X0 := N_q8X0
 have q11X0 := N_q11X0
 have q13X0 := N_q13X0
 have K3 := N_K3
 clear N_HB N_q5X0 N_q8X0 N_q11X0 N_q13X0 N_K3
 clear gb
 have y3 : w.heap.size < w13.heap.size := by omega
 have z3_0 : w13.cell? ⟨w.heap.size, 0, none⟩ = some (.slice A0_0 l0_0.length c0_0) := (blk_cell K3.out 0).trans rfl
 go_wp2_with fail
 clear y3 z3_0
 refine (impl_TreeRange.calls k_E10 _ _ r3 a1 a2 r6 _ (Kd.S_reads' q22X0.out).2.2 (Kd.S_reads' q22X0.out).2.1 H_E10.out).mono ?_
 rintro e w14 ⟨q23u0, rfl, q23g0, gb⟩
 have q23X0 := Aside0.mk (R_iv q23g0 w.heap.size (w13.heap.size) (by have := HB.out.size; first | (simp; done) | (simp; omega) | omega) (by simp))
 clear q23g0
 obtain ⟨q23A0, q23c0, rfl⟩ := Kd.R_slice q23X0.out
 have hz14 : w13.heap.size + 0 ≤ w14.heap.size := by have := gb.size; first | omega | (simp at this; omega)
 have N_HB := Aside0.mk (below_step HB.out gb)
 have N_q5X0 := Aside0.mk (Kd.S_below q5X0.out gb)
 have N_q8X0 := Aside0.mk (Kd.R_below q8X0.out gb)
 have N_q11X0 := Aside0.mk (Kd.R_below q11X0.out gb)
 have N_q13X0 := Aside0.mk (Kd.S_below q13X0.out gb)
 have N_q22X0 := Aside0.mk (Kd.S_below q22X0.out gb)
 have N_K3 := Aside0.mk (blk_below K3.out gb)
 clear HB q5X0 q8X0 q11X0 q13X0 q22X0 K3
 have HB := N_HB
 have q5X0 := N_q5X0
 have q8X0 := N_q8X0
 have q11X0 := N_q11X0
 have q13X0 := N_q13X0
 have q22X0 := N_q22X0
 have K3 := N_K3
 clear N_HB N_q5X0 N_q8X0 N_q11X0 N_q13X0 N_q22X0 N_K3
 clear gb
 go_wp2_with fail
 refine (laws_eqStringS.calls k_E12 _ _ r6 _ _ r6 true _ (Kd.R_reads' q23X0.out).2.2 (Kd.R_reads' q23X0.out).2.1 (Kd.R_reads' q8X0.out).2.2 (Kd.R_reads' q8X0.out).2.1 H_E12.out).mono ?_
 rintro e w15 ⟨rfl, gb⟩
 replace gb := drawn_below gb
 have hz15 : w14.heap.size + 0 ≤ w15.heap.size := by have := gb.size; first | omega | (simp at this; omega)
 have N_HB := Aside0.mk (below_step HB.out gb)
 have N_q5X0 := Aside0.mk (Kd.S_below q5X0.out gb)
 have N_q8X0 := Aside0.mk (Kd.R_below q8X0.out gb)
 have N_q11X0 := Aside0.mk (Kd.R_below q11X0.out gb)
 have N_q13X0 := Aside0.mk (Kd.S_below q13X0.out gb)
 have N_q22X0 := Aside0.mk (Kd.S_below q22X0.out gb)
 have N_q23X0 := Aside0.mk (Kd.R_below q23X0.out gb)
 have N_K3 := Aside0.mk (blk_below K3.out gb)
 clear HB q5X0 q8X0 q11X0 q13X0 q22X0 q23X0 K3
 have HB := N_HB
 have q5X0 := N_q5X0
 have q8X0 := N_q8X0
 have q11X0 := N_q11X0
 have q13X0 := N_q13X0
 have q22X0 := N_q22X0
 have q23X0 := N_q23X0
 have K3 := N_K3
 clear N_HB N_q5X0 N_q8X0 N_q11X0 N_q13X0 N_q22X0 N_q23X0 N_K3
 clear gb
 go_wp2
 go_ret
 exact ⟨rfl, by first | exact HB.out | exact below_alloc HB.out _ | exact below_alloc (below_alloc HB.out _) _ | exact below_alloc (below_alloc (below_alloc HB.out _) _) _⟩

/-! ### zzzz_main_TreeRange: a text by hand -/
theorem treeKeys_le {ns : List S90} {ks : List ByteArray} (h : treeKeys ns = some ks) : ks.length ≤ 4 ^ 13 := by
 by_cases hx : ∃ d t, okT ns d t
 ·obtain ⟨d, t, hok⟩ := hx
  rw [treeKeys_of hok] at h
  injection h with h
  subst h
  exact Nat.le_trans (keysD_le hok.1) (pow4 _ _ (by have := hok.depth; omega))
 ·rw [treeKeys_none (fun d t h => hx ⟨d, t, h⟩)] at h
  cases h
theorem rangeM_le (ns : List S90) (lo hi : ByteArray) : (rangeM ns lo hi).length ≤ 4 ^ 13 := by
 unfold rangeM
 rcases hk : treeKeys ns with _ | ks
 ·simp
 ·exact Nat.le_trans (List.length_filter_le _ _) (treeKeys_le hk)
theorem main_TreeRange (A : Option Addr) (c : Nat) (l : List S98) (s1 s2 : ByteArray)
  (F : l.length ≤ maxLen ∧ ∀ x ∈ l, True ∧ (x.f1.length ≤ maxLen ∧ ∀ y ∈ x.f1, y.size ≤ maxLen) ∧ (x.f2.length ≤ maxLen ∧ ∀ y ∈ x.f2, (Lit.int .i64 y).wf = true) ∧ (Lit.int .i64 x.f3).wf = true) (_F1 : s1.size ≤ maxLen) (_F2 : s2.size ≤ maxLen)
  (w : World) (hr : Kd.C k98 w A l.length l) (hc : l.length ≤ c) :
  Calls Try.prog 6 #[.agg #[.slice A l.length c], .string s1, .string s2] w fun e w' => e = .returned (.bool true) ∧ Below w.heap.size w w' := by
 by_cases cs : 1048576 < s1.size
 ·exact guardL1_FnExactTreeRange A c l s1 s2 w hr hc cs
 by_cases cs2 : 1048576 < s2.size
 ·exact guardL2_FnExactTreeRange A c l s1 s2 w hr hc (by omega) cs2
 obtain ⟨r, hs, hok⟩ := szTree_ev l F.1 (fun x hx => ⟨(F.2 x hx).2.1.1, (F.2 x hx).2.1.2, (F.2 x hx).2.2.1.1⟩)
 by_cases c0 : r < 0
 ·exact guard1_FnExactTreeRange A c l s1 s2 r w hr hc hs c0 (by omega) (by omega)
 obtain ⟨hl, hn⟩ := hok (by omega)
 have hT := toTree_ev l hl hn
 have hl2 : (cvT l).length ≤ 1048576 := by rw [cvT_len]; exact hl
 have hn2 : ∀ x ∈ cvT l, x.f1.length ≤ 1048576 ∧ x.f2.length ≤ 1048576 := fun x hx => by
  obtain ⟨y, hy, rfl⟩ := List.mem_map.1 hx
  exact hn y hy
 have hv : Ev (fun k => m_TreeRange.f k (cvT l) s1 s2) (rangeM (cvT l) s1 s2) := Ev.congr (f := fun _ => some (rangeM (cvT l) s1 s2)) (fun k => by rw [m_TreeRange.f, if_pos ⟨hl2, List.all_eq_true.2 (fun x hx => decide_eq_true (hn2 x hx).2)⟩]) (Ev.now _)
 have hz := rangeM_le (cvT l) s1 s2
 have hb := (mkT_bd (cvT l) hn2 1).1
 exact walk_FnExactTreeRange A c l s1 s2 r (cvT l) _ _ _ _ _ w hr hc hs (by omega) hT hv hv (eqS_ev _ (by omega)) (eqTree_ev (cvT l) hl2 hn2) (markT_ev (cvT l) hn2 hl2) (by omega) (markS_ev _ 1 (by decide) (by omega) (by omega)) (by omega) (heldS_ev _ 1 (by decide) (by omega) (by omega)) (by omega) (by omega)
end Go.Proofs.Ytfjcfklgnlmjjaa.PB
