-- Made by this session's programs out of the translation and of its own texts.
import Derived.Test.YtfjcfklgnlmjjaaMFnExactTreeInsertf
namespace Go.Proofs.Ytfjcfklgnlmjjaa.PB
open Go.RowKit Go.Proofs.YtfjcfklgnlmjjaaW.PrintWords Go.Proofs.YtfjcfklgnlmjjaaW.PrintLast Go.Proofs.YtfjcfklgnlmjjaaW.PrintMore
attribute [local go_sem] max2_int min2_int max_two min_two max_three min_three max_four min_four   -- for this text's walks alone
set_option linter.unusedVariables false
set_option linter.unusedSimpArgs false

/-! ### zzr_rank: a text by hand -/
-- uses goesI_ kN_open0 w64s w64m
-- import Derived.WalkLawsBesides
theorem goesIg_ {P : Program} {ops : Array Oper} {Q : Exit → Act → World → Prop} {rest : List Oper} {oi : Oper} {a : Act} {w : World} (N : Option Tmp) (hd : oi.dst = N) (hw : Region.wanted oi (yielded ops a.tmps) = true) (f : FuncId) (args : Array Value)
  (hrun : (execOp a.eval oi).run P w = .ok (.enter f args) w) (h : Calls P f args w fun e w' => ∃ v, e = .returned v ∧ wpList P ops Q rest (a.put N v) w') : wpList P ops Q (oi :: rest) a w := by
 refine wpList_step fun K hK => ?_
 rw [if_pos hw]
 unfold Oper.wp
 rw [hrun, Oper.upon_enter]
 refine h.mono fun e w'' hh => ?_
 obtain ⟨v, rfl, hk⟩ := hh
 subst hd
 exact hK _ _ hk
theorem leB_eq (a b : ByteArray) : leB a b = (Op.bytesLess a.toList b.toList || (a.toList == b.toList)) := by
 unfold leB lt
 congr 1
 rw [Bool.eq_iff_iff]
 simp only [decide_eq_true_eq, beq_iff_eq]
 exact ⟨fun h => by rw [h], bs_inj⟩
set_option maxHeartbeats 8000000 in
set_option maxRecDepth 100000 in
theorem child_any {d : Nat} {r : Bool} {W : World} {b : Nat} {A : Option Addr} {c : Nat} {t : S56} {ok : Nat → Prop} (hl : InnerAt d W b A c t) (hF : Kd.F (kN d) W ok A t.f2.length t.f2) (hg : goodD (d + 1) r t) (key : ByteArray) :
  Calls Try.prog 73 #[.pointer (some ⟨b, 0, none⟩), .string key] W fun e W' => e = .returned (.int .i64 ((chI d key t.f2 : Nat) : Int)) ∧ W' = W := by
 have x1 : W.cell? ⟨b, 1, none⟩ = some (.slice A t.f2.length c) := (blk_cell hl.2.2.1 1).trans rfl
 have hu2 := Try.underlying87
 have HF := zA hF
 have HG := zA hg
 have HL4 := zA (And.intro hg.2.2.1 hg.2.2.2.1)
 have HQ0 := zA (show chI d key t.f2 = 0 + ((t.f2.drop (0 + 1)).takeWhile (fun k => leB (headK d k) key)).length by rw [Nat.zero_add]; rfl)
 clear hl hF hg
 go_enter Try.func73, Try.ntmps73
 go_wp2_with fail
 go_loopg [5] t.f2.length (fun kq v5 w' => ∃ j : Nat, v5 = .int .i64 (j : Int) ∧ Aside0 (j < t.f2.length ∧ t.f2.length ≤ kq + j) ∧ Aside0 (chI d key t.f2 = j + ((t.f2.drop (j + 1)).takeWhile (fun k => leB (headK d k) key)).length) ∧ w' = W)
 case atStart => exact ⟨0, rfl, ⟨by have := HL4.out; omega, by omega⟩, HQ0, rfl⟩
 case round =>
  clear HQ0
  obtain ⟨j, rfl, HI, HQ, hwr⟩ := hrel
  subst hwr
  have HW1 := zA (w64s j (by have := HI.out; have := HL4.out; omega))
  have hw1 : wrap64 ((j : Int) + 1) = ((j + 1 : Nat) : Int) := HW1.out
  by_cases cj : j + 1 < t.f2.length
  case neg =>
   have cjb : decide (((j + 1 : Nat) : Int) < (t.f2.length : Int)) = false := zK (by omega)
   have cjc : decide ((j : Int) + 1 < (t.f2.length : Int)) = false := zK (by omega)
   have cjd : decide (j + 1 < t.f2.length) = false := zK cj
   have cjw : decide (wrap64 ((j : Int) + 1) < (t.f2.length : Int)) = false := zK (by rw [hw1]; omega)
   clear hw1
   have he : chI d key t.f2 = j := by rw [HQ.out, List.drop_of_length_le (by omega)]; simp
   clear cj
   go_wp2_with fail
   go_ret
   rw [he]
   exact ⟨rfl, rfl⟩
  case pos =>
   have cjb : decide (((j + 1 : Nat) : Int) < (t.f2.length : Int)) = true := zJ (by omega)
   have cjc : decide ((j : Int) + 1 < (t.f2.length : Int)) = true := zJ (by omega)
   have cjd : decide (j + 1 < t.f2.length) = true := zJ cj
   have cjw : decide (wrap64 ((j : Int) + 1) < (t.f2.length : Int)) = true := zJ (by rw [hw1]; omega)
   have pw : (0 ≤ wrap64 ((j : Int) + 1)) = True := eq_true (by rw [hw1]; omega)
   have qw : (wrap64 ((j : Int) + 1) < (t.f2.length : Int)) = True := eq_true (by rw [hw1]; omega)
   have nw : (wrap64 ((j : Int) + 1)).toNat = j + 1 := by rw [hw1]; omega
   clear hw1
   obtain ⟨mm, rfl⟩ : ∃ mm, gk = mm + 1 := ⟨gk - 1, by have := HI.out; omega⟩
   obtain ⟨ad, v, rfl, hx, hK, _⟩ := at_N HF.out (j + 1) cj
   rw [rd56_at _ _ cj] at hK
   obtain ⟨tp, kb, rfl, _, _⟩ := node_keys hK
   obtain ⟨fl, hm, hcl⟩ := node_least hK (HG.out.2.2.2.2 _ (List.getElem_mem cj))
   obtain ⟨hd, hhd⟩ : ∃ hd, hd = headK d (t.f2[j + 1]'cj) := ⟨_, rfl⟩
   have HCJ := zA cj
   have HQ2 := zA (show chI d key t.f2 = if leB hd key = true then (j + 1) + ((t.f2.drop (j + 1 + 1)).takeWhile (fun k => leB (headK d k) key)).length else j by
    rw [HQ.out, List.drop_eq_getElem_cons cj, List.takeWhile_cons, ← hhd]
    split
    ·simp only [List.length_cons]; omega
    ·rfl)
   rw [← hhd] at hcl
   have HM := zA hm
   have HCL := zA hcl
   have p5 : (0 ≤ (j : Int) + 1) = True := eq_true (by omega)
   have q5 : ((j : Int) + 1 < (t.f2.length : Int)) = True := eq_true (by omega)
   have q6 : (j + 1 < t.f2.length) = True := eq_true cj
   have p7 : (0 ≤ ((j + 1 : Nat) : Int)) = True := eq_true (by omega)
   have q7 : (((j + 1 : Nat) : Int) < (t.f2.length : Int)) = True := eq_true (by omega)
   have n5 : ((j : Int) + 1).toNat = j + 1 := by omega
   clear hhd hm hcl hK
   unfold ifP at hx
   have hx2 : wr.cell? ⟨ad.block, ad.off + (j + 1), none⟩ = some (.iface tp (.pointer (some ⟨kb, 0, none⟩))) := by simpa [World.cell?, Addr.add] using hx
   have hle := leB_eq hd key
   rcases hlb : leB hd key with _ | _
   case' false =>
    rw [hlb] at hle
    have hle2 := hle.symm
    have HE := zA (show chI d key t.f2 = j by rw [HQ2.out, hlb]; rfl)
   case' true =>
    rw [hlb] at hle
    have hle2 := hle.symm
    have HE := zA (show chI d key t.f2 = (j + 1) + ((t.f2.drop (j + 1 + 1)).takeWhile (fun k => leB (headK d k) key)).length by rw [HQ2.out, hlb]; rfl)
   all_goals
    clear hle hlb HQ2
    go_wp2_with ((with_reducible refine gate_dst (N := 23) rfl ?_); refine goesIg_ (some 23) rfl (by rfl) fl #[.pointer (some ⟨kb, 0, none⟩)] (run_invoke rfl rfl (HM.out _)) ?_; refine HCL.out.mono ?_; rintro e W1 ⟨rfl, rfl⟩; refine ⟨_, rfl, ?_⟩)
   ·go_roundg mm
    case measure => omega
    case rel => exact ⟨j + 1, by rw [HW1.out], ⟨by have := HI.out; have := HCJ.out; omega⟩, HE, rfl⟩
   ·go_ret
    rw [HE.out]
    exact ⟨rfl, rfl⟩

/-! ### zzu_clone: a text by hand -/
-- import Derived.Deep.RegionLaw
-- import Derived.Lib.SliceRun
-- import Derived.Deep.RegionWith
theorem cloneS_empty (w : World) : Kd.R Kd.string 9 (w.alloc (.cells #[] 9)) w.heap.size (fun _ => True) (.slice (some ⟨w.heap.size, 0, none⟩) 0 0) [] :=
 ⟨fun _ _ => trivial, [], World.ownsRow_lit (base := w.heap.size) (e := 9) (size := 1) w #[] 0 (zY _) (by decide) (by simp), Reps.none _ _⟩
set_option maxHeartbeats 4000000 in
set_option maxRecDepth 100000 in
theorem cloneS_any (A : Option Addr) (c : Nat) (l : List ByteArray) (w : World) (hr : Kd.C Kd.string w A l.length l) (hc : l.length ≤ c) (h : l.length < 4398046511104) :
  Calls Try.prog 61 #[.slice A l.length c] w fun e w' => ∃ A' c', e = .returned (.slice A' l.length c') ∧ Kd.R Kd.string 9 w' w.heap.size (fun _ => True) (.slice A' l.length c') l ∧ Below w.heap.size w w' := by
 have q27 : ∀ (w : World) (a : Option Addr) (n c n' c' : Nat), (binOp .eql 38 (.slice a n c) (.slice none n' c')).run Try.prog w = .ok (.bool a.isNone) w := fun w a n c n' c' => Lib.run_eql_slice_nil w _ _ a n c n' c' Try.underlying38
 have HR := zA hr
 have HB := zA (zZ w.heap.size w)
 rcases A with _ | ad
 ·have h0 : l = [] := by
   cases l with
   | nil => rfl
   | cons x r => obtain ⟨ad, h1, _⟩ := hr.2.2 (by simp); cases h1
  subst h0
  clear hr hc h
  go_enter Try.func61, Try.ntmps61
  go_wp2_with fail
  go_ret
  exact ⟨none, 0, rfl, Kd.R_nil _ _ _ _ _, HB.out⟩
 ·have HL := zA h
  clear hr hc h
  go_enter Try.func61, Try.ntmps61
  go_wp2_with ((with_reducible refine gate_builtin (b := .append) (xs := #[.tmp 5, .tmp 6]) rfl ?_); at_builtin; go_loud (refine Kd.R_append_rows Kd.string (w0 := w) w.heap.size rfl (.tmp 5) (.tmp 6) 38 9 (.string ⟨#[]⟩) 16 rfl Try.underlying38 info9 rfl (by decide) (by omega) (.slice (some ⟨w.heap.size, 0, none⟩) 0 0) [] l _ _ _ (fun _ => True) (fun _ => False) rfl rfl (cloneS_empty w) (zR HR.out _) (fun _ _ h => h) (fun _ h => h.elim) (fun _ _ => trivial) (below_alloc HB.out _) (by simp) (by have := HL.out; simp; omega) ?_); intro v w2 ho hb hg hat; rw [List.nil_append] at ho; have HO := zA ho; have HB2 := zA hb; clear ho hb hg hat)
  obtain ⟨A', c', e'⟩ := Kd.R_slice HO.out
  subst e'
  go_ret
  exact ⟨A', c', rfl, HO.out, HB2.out⟩
theorem cloneI_empty (w : World) : Kd.R (Kd.int .i64) 2 (w.alloc (.cells #[] 2)) w.heap.size (fun _ => True) (.slice (some ⟨w.heap.size, 0, none⟩) 0 0) [] :=
 ⟨fun _ _ => trivial, [], World.ownsRow_lit (base := w.heap.size) (e := 2) (size := 1) w #[] 0 (zY _) (by decide) (by simp), Reps.none _ _⟩
set_option maxHeartbeats 4000000 in
set_option maxRecDepth 100000 in
theorem cloneI_any (A : Option Addr) (c : Nat) (l : List Int) (w : World) (hr : Kd.C (Kd.int .i64) w A l.length l) (hc : l.length ≤ c) (h : l.length < 4398046511104) :
  Calls Try.prog 76 #[.slice A l.length c] w fun e w' => ∃ A' c', e = .returned (.slice A' l.length c') ∧ Kd.R (Kd.int .i64) 2 w' w.heap.size (fun _ => True) (.slice A' l.length c') l ∧ Below w.heap.size w w' := by
 have q27 : ∀ (w : World) (a : Option Addr) (n c n' c' : Nat), (binOp .eql 88 (.slice a n c) (.slice none n' c')).run Try.prog w = .ok (.bool a.isNone) w := fun w a n c n' c' => Lib.run_eql_slice_nil w _ _ a n c n' c' Try.underlying88
 have HR := zA hr
 have HB := zA (zZ w.heap.size w)
 rcases A with _ | ad
 ·have h0 : l = [] := by
   cases l with
   | nil => rfl
   | cons x r => obtain ⟨ad, h1, _⟩ := hr.2.2 (by simp); cases h1
  subst h0
  clear hr hc h
  go_enter Try.func76, Try.ntmps76
  go_wp2_with fail
  go_ret
  exact ⟨none, 0, rfl, Kd.R_nil _ _ _ _ _, HB.out⟩
 ·have HL := zA h
  clear hr hc h
  go_enter Try.func76, Try.ntmps76
  go_wp2_with ((with_reducible refine gate_builtin (b := .append) (xs := #[.tmp 5, .tmp 6]) rfl ?_); at_builtin; go_loud (refine Kd.R_append_rows (Kd.int .i64) (w0 := w) w.heap.size rfl (.tmp 5) (.tmp 6) 88 2 (.int .i64 0) 8 rfl Try.underlying88 info2 rfl (by decide) (by omega) (.slice (some ⟨w.heap.size, 0, none⟩) 0 0) [] l _ _ _ (fun _ => True) (fun _ => False) rfl rfl (cloneI_empty w) (zR HR.out _) (fun _ _ h => h) (fun _ h => h.elim) (fun _ _ => trivial) (below_alloc HB.out _) (by simp) (by have := HL.out; simp; omega) ?_); intro v w2 ho hb hg hat; rw [List.nil_append] at ho; have HO := zA ho; have HB2 := zA hb; clear ho hb hg hat)
  obtain ⟨A', c', e'⟩ := Kd.R_slice HO.out
  subst e'
  go_ret
  exact ⟨A', c', rfl, HO.out, HB2.out⟩
theorem infoNode : (Try.prog.info? 67).map (fun i => (i.zero, i.size, i.bytes)) = some (some .nilIface, 1, 16) := by kernel_rfl
theorem N_lit0 {α : Type} {d : Kd α} {w : World} {e base : Nat} {ok : Nat → Prop} (hs : d.sz = 1) (hfresh : ok w.heap.size) (hbase : base ≤ w.heap.size) : Kd.N d e (w.alloc (.cells #[] e)) base ok (.slice (some ⟨w.heap.size, 0, none⟩) 0 0) [] :=
 ⟨fun k hk => by have : w.heap.size = k := by simpa [Value.ownBlock] using hk
                 exact this ▸ hfresh, [], rfl, ⟨fun _ hk => hk.symm, [], World.ownsRow_lit (base := base) (e := e) (size := d.sz) w #[] 0 hbase (by decide) (by simp), Reps.none _ _⟩, fun j x c hx => by simp at hx⟩
set_option maxHeartbeats 4000000 in
set_option maxRecDepth 100000 in
theorem cloneN_any {d : Nat} {ok : Nat → Prop} (A : Option Addr) (c : Nat) (l : List S56) (w : World) (hF : Kd.F (kN d) w ok A l.length l) (hc : l.length ≤ c) (h : l.length < 1048576) (hp : 0 < l.length) :
  Calls Try.prog 79 #[.slice A l.length c] w fun e w' => ∃ A' c', e = .returned (.slice A' l.length c') ∧ Kd.N (kN d) 67 w' w.heap.size (fun k => ok k ∨ w.heap.size ≤ k) (.slice A' l.length c') l ∧ Below w.heap.size w w' := by
 have q27 : ∀ (w : World) (a : Option Addr) (n c n' c' : Nat), (binOp .eql 77 (.slice a n c) (.slice none n' c')).run Try.prog w = .ok (.bool a.isNone) w := fun w a n c n' c' => Lib.run_eql_slice_nil w _ _ a n c n' c' Try.underlying77
 obtain ⟨ad, rfl⟩ : ∃ ad, A = some ad := by
  obtain ⟨ad, h1, _⟩ := (Kd.F_now hF).2.2 hp
  exact ⟨ad, h1⟩
 have HR := zA (Kd.F_mono (ok' := fun k => ok k ∧ k < w.heap.size) (Kd.F_bound hF) (fun k hk => ⟨hk.1, hk.2⟩))
 have HB := zA (zZ w.heap.size w)
 have HL := zA h
 have HSZ := zA (kN_sz d)
 clear hF hc h hp
 go_enter Try.func79, Try.ntmps79
 go_wp2_with ((with_reducible refine gate_builtin (b := .append) (xs := #[.tmp 5, .tmp 6]) rfl ?_); at_builtin; go_loud (refine Kd.N_append_rows (kN d) (w0 := w) w.heap.size rfl (.tmp 5) (.tmp 6) 77 67 .nilIface 16 rfl Try.underlying77 (by rw [HSZ.out]; exact infoNode) (by rw [HSZ.out]; rfl) (by rw [HSZ.out]; decide) (by decide) (.slice (some ⟨w.heap.size, 0, none⟩) 0 0) [] l _ _ _ (fun k => ok k ∨ w.heap.size ≤ k) (fun k => ok k ∧ k < w.heap.size) rfl rfl (N_lit0 (kN_sz d) (Or.inr (zY _)) (zY _)) (Kd.F_alloc HR.out _) (fun k hk => ⟨Or.inl hk.1, fun he => Nat.lt_irrefl _ ((show k = w.heap.size by simpa [Value.ownBlock] using he) ▸ hk.2)⟩) (fun k hk => Or.inr (by simp at hk; omega)) (below_alloc HB.out _) (by simp) (by have := HL.out; simp; omega) ?_); intro v w2 ho hb hg hat; rw [List.nil_append] at ho; have HO := zA ho; have HB2 := zA hb; clear ho hb hg hat)
 obtain ⟨A', c', e'⟩ := Kd.N_slice HO.out
 subst e'
 go_ret
 exact ⟨A', c', rfl, HO.out, HB2.out⟩

/-! ### zzu_sins: a text by hand -/
-- uses kids_bound OfEnd below_new blk_set3 below_set3 set3_other
theorem two_all {α : Type} {P : α → Prop} {a b : α} (ha : P a) (hb : P b) : ∀ k ∈ [a, b], P k := fun k hk => by
 simp only [List.mem_cons, List.not_mem_nil, or_false] at hk
 rcases hk with rfl | rfl
 ·exact ha
 ·exact hb
theorem insM_bad {ns : List S90} {key : ByteArray} (h : ∀ d t, ¬ okT ns d t) : insM ns key = (false, ns) := by
 unfold insM; rw [treeOf_none h]
theorem insM_no {ns : List S90} {key : ByteArray} {d : Nat} {t : S56} (h : okT ns d t) (c : 16 < key.size ∨ key ∈ keysD d t) : insM ns key = (false, ns) := by
 unfold insM; rw [treeOf_of h]; simp only; rw [if_pos c]
theorem insM_big {ns : List S90} {key : ByteArray} {d : Nat} {t : S56} (h : okT ns d t) (c : ¬ (16 < key.size ∨ key ∈ keysD d t)) (c2 : 5000 < (flatD (topD d (insD key d t)).1 (topD d (insD key d t)).2 0).length) : insM ns key = (false, ns) := by
 unfold insM; rw [treeOf_of h]; simp only; rw [if_neg c, if_pos c2]
theorem insM_yes {ns : List S90} {key : ByteArray} {d : Nat} {t : S56} (h : okT ns d t) (c : ¬ (16 < key.size ∨ key ∈ keysD d t)) (c2 : ¬ 5000 < (flatD (topD d (insD key d t)).1 (topD d (insD key d t)).2 0).length) : insM ns key = (true, flatD (topD d (insD key d t)).1 (topD d (insD key d t)).2 0) := by
 unfold insM; rw [treeOf_of h]; simp only; rw [if_neg c, if_neg c2]
noncomputable def m_TreeInsert.f (_k : Nat) (l : List S90) (a1 : ByteArray) : Option (Bool × List S90) := if l.length ≤ 1048576 ∧ l.all (fun x => decide (x.f1.length ≤ 1048576) && decide (x.f2.length ≤ 1048576)) = true then some (insM l a1) else none
theorem both_bound {l : List S90} (h : l.all (fun x => decide (x.f1.length ≤ 1048576) && decide (x.f2.length ≤ 1048576)) = true) : ∀ x ∈ l, x.f1.length ≤ 1048576 ∧ x.f2.length ≤ 1048576 := fun x hx => by
 have := List.all_eq_true.1 h x hx
 simpa using this
theorem kids_all {l : List S90} (h : l.all (fun x => decide (x.f1.length ≤ 1048576) && decide (x.f2.length ≤ 1048576)) = true) : l.all (fun x => decide (x.f2.length ≤ 1048576)) = true := by
 rw [List.all_eq_true]
 intro x hx
 exact zJ (both_bound h x hx).2
set_option maxHeartbeats 16000000 in
set_option maxRecDepth 100000 in
theorem spec_TreeInsert.calls (k : Nat) (A0_0 : Option Addr) (c0_0 : Nat) (l0_0 : List (S90)) (a1 : ByteArray) (r1 : Bool) (r2 : List (S90)) (w : World) (hr0_0 : Kd.C k90 w A0_0 l0_0.length l0_0) (hc0_0 : l0_0.length ≤ c0_0) (h : m_TreeInsert.f k l0_0 a1 = some (r1, r2)) :
  Calls Try.prog 26 #[.agg #[.slice A0_0 l0_0.length c0_0], .string a1] w fun e w' => ∃ v0_ : Value, e = .returned (.agg #[.bool r1, v0_]) ∧ Kd.N k90 90 w' w.heap.size (fun k_ => w.heap.size ≤ k_) v0_ r2 ∧ Below w.heap.size w w' := by
 unfold m_TreeInsert.f at h
 split at h
 case isFalse => cases h
 next hL =>
 injection h with h
 have hb0 : Below w.heap.size w ((w.alloc (.cells #[.slice A0_0 l0_0.length c0_0] 24)).alloc (.cells #[.bool false, .slice none 0 0] 44)) := below_alloc (below_alloc (zZ _ _) _) _
 have K1 := zA (zF (blk_new w (.cells #[.slice A0_0 l0_0.length c0_0] 24)) (.cells #[.bool false, .slice none 0 0] 44))
 have K2 := zA (blk_new (w.alloc (.cells #[.slice A0_0 l0_0.length c0_0] 24)) (.cells #[.bool false, .slice none 0 0] 44))
 rw [show (w.alloc (.cells #[.slice A0_0 l0_0.length c0_0] 24)).heap.size = w.heap.size + 1 by simp] at K2
 have HB := zA hb0
 have HR := zA (zQ hr0_0 hb0)
 have HL := zA (And.intro hL hc0_0)
 have HH := zA h
 have hu24 := Try.underlying24
 have hu44 := Try.underlying44
 have hu56 := Try.underlying56
 clear hb0 hL hr0_0 hc0_0 h
 go_enter Try.func26, Try.ntmps26
 go_upto_region 1 with (fail)
 generalize ((w.alloc (.cells #[.slice A0_0 l0_0.length c0_0] 24)).alloc (.cells #[.bool false, .slice none 0 0] 44)) = W0 at *
 have x0 : W0.cell? ⟨w.heap.size, 0, none⟩ = some (.slice A0_0 l0_0.length c0_0) := (blk_cell K1.out 0).trans rfl
 go_wp2_with fail
 refine (l3Of_any l0_0 HL.out.1.1 (kids_bound (kids_all HL.out.1.2)) A0_0 c0_0 W0 HR.out HL.out.2).mono ?_
 rintro e W5 ⟨x, v1, v2, okk, rfl, hK, hb, h1, h2, h3⟩
 obtain ⟨A5, c5, A6, c6, he, l1, F1, l2, F2⟩ := k56_openF hK
 simp only [List.cons.injEq, and_true, true_and] at he
 obtain ⟨rfl, rfl⟩ := he
 have HB5 := zA (below_lo HB.out hb HB.out.size)
 have K15 := zA (zH K1.out hb)
 have K25 := zA (zH K2.out hb)
 have HK := zA hK
 have HL2 := zA (And.intro l1 l2)
 have HOK := zA (And.intro h1 (And.intro h2 h3))
 have HR5 := zA (zQ HR.out hb)
 clear hK hb h1 h2 h3 x0 l1 F1 l2 F2 HB K1 K2 HR
 go_upto_region 2 with (fail)
 have hb6 : Below W5.heap.size W5 (W5.alloc (.cells #[.bool x.f0, .slice A5 x.f1.length c5, .slice A6 x.f2.length c6] 56)) := below_alloc (zZ _ _) _
 have K3 := zA (blk_new W5 (.cells #[.bool x.f0, .slice A5 x.f1.length c5, .slice A6 x.f2.length c6] 56))
 have K1 := zA (zH K15.out hb6)
 have K2 := zA (zH K25.out hb6)
 have HB := zA (below_lo HB5.out hb6 HB5.out.size)
 have HR := zA (zQ HR5.out hb6)
 have HK6 := zA (yD (ok' := fun k => k < W5.heap.size) (yE (Kd.FK_bound HK.out) hb6) (fun k hk => hk.2))
 have HZ := zA (And.intro (show w.heap.size + 1 < W5.heap.size from (blk_lt K25.out)) hb6.size)
 generalize (W5.alloc (.cells #[.bool x.f0, .slice A5 x.f1.length c5, .slice A6 x.f2.length c6] 56)) = W6 at *
 generalize W5.heap.size = m5 at *
 clear hb6 HB5 K15 K25 HK HR5
 have x0 : W6.cell? ⟨w.heap.size, 0, none⟩ = some (.slice A0_0 l0_0.length c0_0) := (blk_cell K1.out 0).trans rfl
 obtain ⟨z0, z1, z2, u0, u1, u2⟩ := blk_cells3 K3.out
 have hCOPY : ∀ (Wc : World), Below w.heap.size w Wc → Wc.heap[w.heap.size + 1]? = some (.cells #[.bool false, .slice none 0 0] 44 (0, 0)) → Kd.C k90 Wc A0_0 l0_0.length l0_0 → Calls Try.prog 53 #[.agg #[.slice A0_0 l0_0.length c0_0]] Wc fun e w' => ∃ A c, e = .returned (.agg #[.slice A l0_0.length c]) ∧ w'.heap[w.heap.size + 1]? = some (.cells #[.bool false, .slice none 0 0] 44 (0, 0)) ∧ Below w.heap.size w w' ∧ Kd.N k90 90 w' w.heap.size (fun k_ => w.heap.size ≤ k_ ∧ k_ ≠ w.heap.size + 1) (.slice A l0_0.length c) l0_0 := by
  intro Wc hbc hk2 hC
  obtain ⟨kk, hkk⟩ := (copy_ev l0_0 HL.out.1.1 (both_bound HL.out.1.2)).rounds
  refine (spec_l3Copy.calls kk _ _ l0_0 l0_0 Wc hC HL.out.2 hkk).mono ?_
  rintro e w' ⟨v0, rfl, hS, hb⟩
  obtain ⟨A, c, rfl⟩ := Kd.S_slice hS
  have hlt := blk_lt hk2
  have hsz := hbc.size
  exact ⟨A, c, rfl, zH hk2 hb, below_lo hbc hb hbc.size, Kd.N_lower (yC (Kd.S_N (yB (Kd.S_bound hS) (ok' := fun k_ => Wc.heap.size ≤ k_) (fun k hk => hk.2.1))) (fun k hk => ⟨by omega, by omega⟩)) hsz⟩
 have HCOPY := zA hCOPY
 clear hCOPY
 rcases okk with _ | _
 case false =>
  have HE := zA (insM_bad (key := a1) (HOK.out.2.1 rfl))
  rw [HE.out] at HH
  obtain ⟨rfl, rfl⟩ : false = r1 ∧ l0_0 = r2 := by have := HH.out; simpa using this
  go_wp2_with fail
  refine (HCOPY.out W6 HB.out K2.out HR.out).mono ?_
  rintro e W9 ⟨A9, c9, rfl, hk, hb, hN⟩
  have K29 := zA hk
  have HB9 := zA hb
  have HN9 := zA hN
  obtain ⟨y0, y1, v0, v1⟩ : W9.cell? ⟨w.heap.size + 1, 0, none⟩ = some (.bool false) ∧ W9.cell? ⟨w.heap.size + 1, 1, none⟩ = some (.slice none 0 0) ∧ W9.frozen? ⟨w.heap.size + 1, 0, none⟩ = false ∧ W9.frozen? ⟨w.heap.size + 1, 1, none⟩ = false := ⟨(blk_cell hk 0).trans rfl, (blk_cell hk 1).trans rfl, zG hk 0, zG hk 1⟩
  clear hk hb hN
  go_wp2_with fail
  refine bodyPost_ret (yK rfl _ _ (w.heap.size + 1) 44 #[.bool false, .slice A9 l0_0.length c9] (0, 0) _ rfl (blk_put (blk_put K29.out 0 _ rfl) 1 _ rfl) hu44 rfl (by kernel_rfl)) rfl ⟨_, rfl, ?_, ?_⟩
  ·exact yC (Kd.N_far (p := ⟨w.heap.size + 1, 1, none⟩) (Kd.N_far (p := ⟨w.heap.size + 1, 0, none⟩) HN9.out (fun k hk => hk.2) _) (fun k hk => hk.2) _) (fun k hk => hk.1)
  ·exact below_set (below_set HB9.out (by show w.heap.size ≤ w.heap.size + 1; omega)) (by show w.heap.size ≤ w.heap.size + 1; omega)
 case true =>
  obtain ⟨d, hd⟩ := HOK.out.1 rfl
  have HD := zA hd
  clear hd HOK
  by_cases cs : 16 < a1.size
  ·have c16 : decide (((16 : Nat) : Int) < (a1.size : Int)) = true := zJ (by omega)
   have c17 : decide (16 < a1.size) = true := zJ cs
   have c18 : decide ((16 : Int) < (a1.size : Int)) = true := zJ (by omega)
   have HE := zA (insM_no (key := a1) HD.out (Or.inl cs))
   rw [HE.out] at HH
   obtain ⟨rfl, rfl⟩ : false = r1 ∧ l0_0 = r2 := by have := HH.out; simpa using this
   clear cs
   go_wp2_with fail
   refine (HCOPY.out W6 HB.out K2.out HR.out).mono ?_
   rintro e W9 ⟨A9, c9, rfl, hk, hb, hN⟩
   have K29 := zA hk
   have HB9 := zA hb
   have HN9 := zA hN
   obtain ⟨y0, y1, v0, v1⟩ : W9.cell? ⟨w.heap.size + 1, 0, none⟩ = some (.bool false) ∧ W9.cell? ⟨w.heap.size + 1, 1, none⟩ = some (.slice none 0 0) ∧ W9.frozen? ⟨w.heap.size + 1, 0, none⟩ = false ∧ W9.frozen? ⟨w.heap.size + 1, 1, none⟩ = false := ⟨(blk_cell hk 0).trans rfl, (blk_cell hk 1).trans rfl, zG hk 0, zG hk 1⟩
   clear hk hb hN
   go_wp2_with fail
   refine bodyPost_ret (yK rfl _ _ (w.heap.size + 1) 44 #[.bool false, .slice A9 l0_0.length c9] (0, 0) _ rfl (blk_put (blk_put K29.out 0 _ rfl) 1 _ rfl) hu44 rfl (by kernel_rfl)) rfl ⟨_, rfl, ?_, ?_⟩
   · exact yC (Kd.N_far (p := ⟨w.heap.size + 1, 1, none⟩) (Kd.N_far (p := ⟨w.heap.size + 1, 0, none⟩) HN9.out (fun k hk => hk.2) _) (fun k hk => hk.2) _) (fun k hk => hk.1)
   · exact below_set (below_set HB9.out (by show w.heap.size ≤ w.heap.size + 1; omega)) (by show w.heap.size ≤ w.heap.size + 1; omega)
  ·have c16 : decide (((16 : Nat) : Int) < (a1.size : Int)) = false := zK (by omega)
   have c17 : decide (16 < a1.size) = false := zK cs
   have c18 : decide ((16 : Int) < (a1.size : Int)) = false := zK (by omega)
   have CS := zA cs
   clear cs
   go_wp2_with fail
   obtain ⟨A5', c5', A6', c6', he, l1, F1, l2, F2⟩ := k56_openF HK6.out
   simp only [List.cons.injEq, Value.slice.injEq, and_true, true_and] at he
   obtain ⟨⟨rfl, rfl⟩, rfl, rfl⟩ := he
   have HDD := zA HD.out.depth
   have HKEY := zA (keys_at d true x (6 * d + 1) HD.out.1 (by have := HDD.out; omega) (zY _))
   have HV := zA (And.intro l1 (And.intro F1 (And.intro l2 F2)))
   refine (spec_l3Keys.calls (6 * d + 1) _ _ _ _ _ _ _ _ _ (Kd.F_now F1) l1 (Kd.F_now F2) l2 HKEY.out).mono ?_
   rintro e W7 ⟨v8, rfl, hR, hb⟩
   obtain ⟨A8, c8, rfl⟩ := Kd.R_slice hR
   have HRK := zA (And.intro (Kd.R_reads' hR).2.2 (Kd.R_reads' hR).2.1)
   have K17 := zA (zH K1.out hb)
   have K27 := zA (zH K2.out hb)
   have K37 := zA (zH K3.out hb)
   have HB7 := zA (below_lo HB.out hb HB.out.size)
   have HR7 := zA (zQ HR.out hb)
   have HV7 := zA (And.intro (yF F1 hb) (yF F2 hb))
   have HZ7 := zA (yI HZ.out.2 hb.size)
   have HKL := zA (show (keysD d x).length ≤ 1000000000 by have h1 := keysD_le HD.out.1; have h2 := pow4 (d + 1) 13 (by have := HDD.out; omega); omega)
   obtain ⟨kh, hkh⟩ := (holds_ev a1 (keysD d x) HKL.out).rounds
   have HHE := zA hkh
   clear hR hb x0 z0 z1 z2 u0 u1 u2 l1 F1 l2 F2 K1 K2 K3 HB HR HK6 hkh
   go_wp2_with fail
   refine (spec_l3Holds.calls kh _ _ _ _ _ _ HRK.out.1 HRK.out.2 HHE.out).mono ?_
   rintro e W8 ⟨rfl, hdr⟩
   have hb := hdr.below
   have K18 := zA (zH K17.out hb)
   have K28 := zA (zH K27.out hb)
   have K38 := zA (zH K37.out hb)
   have HB8 := zA (below_lo HB7.out hb HB7.out.size)
   have HR8 := zA (zQ HR7.out hb)
   have HV8 := zA (And.intro (yF HV7.out.1 hb) (yF HV7.out.2 hb))
   have HZ8 := zA (yI HZ7.out hb.size)
   clear hb hdr K17 K27 K37 HB7 HR7 HV7
   have x0 : W8.cell? ⟨w.heap.size, 0, none⟩ = some (.slice A0_0 l0_0.length c0_0) := (blk_cell K18.out 0).trans rfl
   obtain ⟨z0, z1, z2, u0, u1, u2⟩ := blk_cells3 K38.out
   cases hh : hasK a1 (keysD d x) with
   | true =>
     have HE := zA (insM_no (key := a1) HD.out (Or.inr (hasK_iff.1 hh)))
     rw [HE.out] at HH
     obtain ⟨rfl, rfl⟩ : false = r1 ∧ l0_0 = r2 := by have := HH.out; simpa using this
     clear hh
     go_wp2_with fail
     refine (HCOPY.out W8 HB8.out K28.out HR8.out).mono ?_
     rintro e W9 ⟨A9, c9, rfl, hk, hb, hN⟩
     have K29 := zA hk
     have HB9 := zA hb
     have HN9 := zA hN
     obtain ⟨y0, y1, v0, v1⟩ : W9.cell? ⟨w.heap.size + 1, 0, none⟩ = some (.bool false) ∧ W9.cell? ⟨w.heap.size + 1, 1, none⟩ = some (.slice none 0 0) ∧ W9.frozen? ⟨w.heap.size + 1, 0, none⟩ = false ∧ W9.frozen? ⟨w.heap.size + 1, 1, none⟩ = false := ⟨(blk_cell hk 0).trans rfl, (blk_cell hk 1).trans rfl, zG hk 0, zG hk 1⟩
     clear hk hb hN
     go_wp2_with fail
     refine bodyPost_ret (yK rfl _ _ (w.heap.size + 1) 44 #[.bool false, .slice A9 l0_0.length c9] (0, 0) _ rfl (blk_put (blk_put K29.out 0 _ rfl) 1 _ rfl) hu44 rfl (by kernel_rfl)) rfl ⟨_, rfl, ?_, ?_⟩
     ·exact yC (Kd.N_far (p := ⟨w.heap.size + 1, 1, none⟩) (Kd.N_far (p := ⟨w.heap.size + 1, 0, none⟩) HN9.out (fun k hk => hk.2) _) (fun k hk => hk.2) _) (fun k hk => hk.1)
     ·exact below_set (below_set HB9.out (by show w.heap.size ≤ w.heap.size + 1; omega)) (by show w.heap.size ≤ w.heap.size + 1; omega)
   | false =>
     have HNO := zA (show ¬ (16 < a1.size ∨ a1 ∈ keysD d x) from fun h => h.elim CS.out (fun hm => by rw [hasK_iff.2 hm] at hh; cases hh))
     obtain ⟨ki, hki⟩ := (ins_ev a1 d true x HD.out.1 (ascK_srt HD.out.2.2.2) (by have := HDD.out; omega)).rounds
     have HIE := zA hki
     clear hh hki
     go_wp2_with fail
     refine (spec_l3Ins.calls ki _ _ _ x.f1 (fun k => k < m5) _ _ x.f2 a1 (insD a1 d x) W8 (Kd.F_now HV8.out.1) HV.out.1 (Kd.V_mk HV.out.2.2.1 HV8.out.2) HIE.out).mono ?_
     rintro e W10 ⟨v10, rfl, hN, hb⟩
     obtain ⟨A10, c10, rfl⟩ := Kd.N_slice hN
     have K110 := zA (zH K18.out hb)
     have K210 := zA (zH K28.out hb)
     have HB10 := zA (below_lo HB8.out hb HB8.out.size)
     have HR10 := zA (zQ HR8.out hb)
     have HN10 := zA (yC (ok' := fun k => k < W10.heap.size) (Kd.N_bound hN) (fun k hk => hk.2))
     clear hN hb K18 K28 K38 HB8 HR8 HV8 x0 z0 z1 z2 u0 u1 u2
     rcases ins_good a1 d true x HD.out.1 with ⟨y, hy, hyg⟩ | ⟨ya, yb, hy, hyg, hyg2⟩
     ·have HIN := zA hy
      have HYG := zA hyg
      rw [hy] at HN10 ⊢
      clear hy hyg
      obtain ⟨ad, A1e, c1e, A2e, c2e, rfl, e0, e1, e2, hKe, _⟩ := at_F56r (Kd.N_F HN10.out) 0 (Nat.succ_pos _)
      rw [show rd_T56 [y] ((0 : Nat) : Int) = y from rfl] at e0 e1 e2 hKe
      simp only [Nat.zero_mul, Addr.add_zero'] at e0 e1 e2
      have HKE := zA hKe
      clear hKe
      go_upto_region 8 with (fail)
      have hb11 : Below W10.heap.size W10 (W10.alloc (.cells #[.bool y.f0, .slice A1e y.f1.length c1e, .slice A2e y.f2.length c2e] 56)) := below_alloc (zZ _ _) _
      have K111 := zA (zH K110.out hb11)
      have K211 := zA (zH K210.out hb11)
      have HB11 := zA (below_lo HB10.out hb11 HB10.out.size)
      have HR11 := zA (zQ HR10.out hb11)
      have K311 := zA (blk_new W10 (.cells #[.bool y.f0, .slice A1e y.f1.length c1e, .slice A2e y.f2.length c2e] 56))
      have HZ11 := zA hb11.size
      have HKE11 := zA (yD (ok' := fun k => k < (W10.alloc (.cells #[.bool y.f0, .slice A1e y.f1.length c1e, .slice A2e y.f2.length c2e] 56)).heap.size) (yE HKE.out hb11) (fun k hk => yJ hk hb11.size))
      clear e0 e1 e2 HKE
      generalize (W10.alloc (.cells #[.bool y.f0, .slice A1e y.f1.length c1e, .slice A2e y.f2.length c2e] 56)) = W11 at *
      obtain ⟨z0, z1, z2, u0, u1, u2⟩ := blk_cells3 K311.out
      clear hb11
      go_wp2_with fail
      have HTOP := zA (show goodD d true y from HYG.out)
      obtain ⟨fl, hfl⟩ : ∃ fl, fl = flatD d y 0 := ⟨_, rfl⟩
      have HFL := zA hfl
      clear hfl
      refine (l3Flat_any (W11).heap.size (d) true y 0 A1e c1e A2e c2e W11 HTOP.out (by have := HDD.out; omega) (4 ^ (d + 2)) rfl (Int.le_refl 0) (by have h1 := pow4 (d + 2) 15 (by have := HDD.out; omega); omega) HKE11.out (zY _)).mono ?_
      rintro e W12 ⟨v12, rfl, hN, hb⟩
      rw [← HFL.out] at hN
      obtain ⟨A12, c12, rfl⟩ := Kd.N_slice hN
      have HB12 := zA (below_lo HB11.out hb HB11.out.size)
      have K112 := zA (zH K111.out hb)
      have K212 := zA (zH K211.out hb)
      have HR12 := zA (zQ HR11.out hb)
      have HN12 := zA (Kd.N_lower (yC (ok' := fun k => w.heap.size ≤ k ∧ k ≠ w.heap.size + 1) hN (fun k hk => ⟨by have := HB11.out.size; omega, by have := blk_lt K211.out; omega⟩)) HB11.out.size)
      clear hN hb
      have x0 : W12.cell? ⟨w.heap.size, 0, none⟩ = some (.slice A0_0 l0_0.length c0_0) := (blk_cell K112.out 0).trans rfl
      obtain ⟨y0, y1, v0, v1⟩ : W12.cell? ⟨w.heap.size + 1, 0, none⟩ = some (.bool false) ∧ W12.cell? ⟨w.heap.size + 1, 1, none⟩ = some (.slice none 0 0) ∧ W12.frozen? ⟨w.heap.size + 1, 0, none⟩ = false ∧ W12.frozen? ⟨w.heap.size + 1, 1, none⟩ = false := ⟨(blk_cell K212.out 0).trans rfl, (blk_cell K212.out 1).trans rfl, zG K212.out 0, zG K212.out 1⟩
      by_cases cb : 5000 < fl.length
      ·have c16 : decide (((5000 : Nat) : Int) < (fl.length : Int)) = true := zJ (by omega)
       have c17 : decide (5000 < fl.length) = true := zJ cb
       have c18 : decide ((5000 : Int) < (fl.length : Int)) = true := zJ (by omega)
       have HE2 := zA (insM_big HD.out HNO.out (by rw [HIN.out]; have := cb; rw [HFL.out] at this; exact this))
       rw [HE2.out] at HH
       obtain ⟨rfl, rfl⟩ : false = r1 ∧ l0_0 = r2 := by have := HH.out; simpa using this
       clear cb y0 y1 v0 v1
       go_wp2_with fail
       refine (HCOPY.out W12 HB12.out K212.out HR12.out).mono ?_
       rintro e W9 ⟨A9, c9, rfl, hk, hb, hN⟩
       have K29 := zA hk
       have HB9 := zA hb
       have HN9 := zA hN
       obtain ⟨y0, y1, v0, v1⟩ : W9.cell? ⟨w.heap.size + 1, 0, none⟩ = some (.bool false) ∧ W9.cell? ⟨w.heap.size + 1, 1, none⟩ = some (.slice none 0 0) ∧ W9.frozen? ⟨w.heap.size + 1, 0, none⟩ = false ∧ W9.frozen? ⟨w.heap.size + 1, 1, none⟩ = false := ⟨(blk_cell hk 0).trans rfl, (blk_cell hk 1).trans rfl, zG hk 0, zG hk 1⟩
       clear hk hb hN
       go_wp2_with fail
       refine bodyPost_ret (yK rfl _ _ (w.heap.size + 1) 44 #[.bool false, .slice A9 l0_0.length c9] (0, 0) _ rfl (blk_put (blk_put K29.out 0 _ rfl) 1 _ rfl) hu44 rfl (by kernel_rfl)) rfl ⟨_, rfl, ?_, ?_⟩
       ·exact yC (Kd.N_far (p := ⟨w.heap.size + 1, 1, none⟩) (Kd.N_far (p := ⟨w.heap.size + 1, 0, none⟩) HN9.out (fun k hk => hk.2) _) (fun k hk => hk.2) _) (fun k hk => hk.1)
       ·exact below_set (below_set HB9.out (by show w.heap.size ≤ w.heap.size + 1; omega)) (by show w.heap.size ≤ w.heap.size + 1; omega)
      ·have c16 : decide (((5000 : Nat) : Int) < (fl.length : Int)) = false := zK (by omega)
       have c17 : decide (5000 < fl.length) = false := zK cb
       have c18 : decide ((5000 : Int) < (fl.length : Int)) = false := zK (by omega)
       have HE2 := zA (insM_yes HD.out HNO.out (by rw [HIN.out]; have := cb; rw [HFL.out] at this; exact this))
       rw [HE2.out, HIN.out] at HH
       obtain ⟨rfl, hr2⟩ : true = r1 ∧ fl = r2 := by have := HH.out; rw [HFL.out]; simpa [topD] using this
       subst hr2
       clear cb
       go_wp2_with fail
       refine bodyPost_ret (yK rfl _ _ (w.heap.size + 1) 44 #[.bool true, .slice A12 _ c12] (0, 0) _ rfl (blk_put (blk_put K212.out 0 _ rfl) 1 _ rfl) hu44 rfl (by kernel_rfl)) rfl ⟨_, rfl, ?_, ?_⟩
       ·exact yC (Kd.N_far (p := ⟨w.heap.size + 1, 1, none⟩) (Kd.N_far (p := ⟨w.heap.size + 1, 0, none⟩) HN12.out (fun k hk => hk.2) _) (fun k hk => hk.2) _) (fun k hk => hk.1)
       ·exact below_set (below_set HB12.out (by show w.heap.size ≤ w.heap.size + 1; omega)) (by show w.heap.size ≤ w.heap.size + 1; omega)
     ·have HIN := zA hy
      have HYG := zA (And.intro hyg hyg2)
      rw [hy] at HN10 ⊢
      clear hy hyg hyg2
      obtain ⟨ad, A1e, c1e, A2e, c2e, rfl, e0, e1, e2, hKe, _⟩ := at_F56r (Kd.N_F HN10.out) 0 (Nat.succ_pos _)
      simp only [Nat.zero_mul, Addr.add_zero'] at e0 e1 e2
      clear hKe
      go_upto_region 8 with (fail)
      have hb11 : Below W10.heap.size W10 (W10.alloc (.cells #[.bool false, .slice none 0 0, .slice (some ad) 2 c10] 56)) := below_alloc (zZ _ _) _
      have K111 := zA (zH K110.out hb11)
      have K211 := zA (zH K210.out hb11)
      have HB11 := zA (below_lo HB10.out hb11 HB10.out.size)
      have HR11 := zA (zQ HR10.out hb11)
      have K311 := zA (blk_new W10 (.cells #[.bool false, .slice none 0 0, .slice (some ad) 2 c10] 56))
      have HZ11 := zA hb11.size
      have HKE11 := zA (k56_mkF (W10.alloc (.cells #[.bool false, .slice none 0 0, .slice (some ad) 2 c10] 56)) (fun k => k < (W10.alloc (.cells #[.bool false, .slice none 0 0, .slice (some ad) 2 c10] 56)).heap.size) (⟨false, [], [ya, yb]⟩ : S56) (zY 0) (Kd.F_nil _ _ _) (A2 := some ad) (c2 := c10) (Kd.N_reads' HN10.out).2.1 (Kd.F_mono (yF (Kd.N_F HN10.out) hb11) (fun k hk => yJ hk hb11.size)))
      clear e0 e1 e2
      generalize (W10.alloc (.cells #[.bool false, .slice none 0 0, .slice (some ad) 2 c10] 56)) = W11 at *
      obtain ⟨z0, z1, z2, u0, u1, u2⟩ := blk_cells3 K311.out
      clear hb11
      go_wp2_with fail
      have HTOP := zA (show goodD (d + 1) true (⟨false, [], [ya, yb]⟩ : S56) from ⟨rfl, rfl, zY 2, show 2 ≤ 4 by decide, two_all HYG.out.1 HYG.out.2⟩)
      obtain ⟨fl, hfl⟩ : ∃ fl, fl = flatD (d + 1) (⟨false, [], [ya, yb]⟩ : S56) 0 := ⟨_, rfl⟩
      have HFL := zA hfl
      clear hfl
      refine (l3Flat_any (W11).heap.size ((d + 1)) true (⟨false, [], [ya, yb]⟩ : S56) 0 none 0 (some ad) c10 W11 HTOP.out (by have := HDD.out; omega) (4 ^ ((d + 1) + 2)) rfl (Int.le_refl 0) (by have h1 := pow4 ((d + 1) + 2) 15 (by have := HDD.out; omega); omega) HKE11.out (zY _)).mono ?_
      rintro e W12 ⟨v12, rfl, hN, hb⟩
      rw [← HFL.out] at hN
      obtain ⟨A12, c12, rfl⟩ := Kd.N_slice hN
      have HB12 := zA (below_lo HB11.out hb HB11.out.size)
      have K112 := zA (zH K111.out hb)
      have K212 := zA (zH K211.out hb)
      have HR12 := zA (zQ HR11.out hb)
      have HN12 := zA (Kd.N_lower (yC (ok' := fun k => w.heap.size ≤ k ∧ k ≠ w.heap.size + 1) hN (fun k hk => ⟨by have := HB11.out.size; omega, by have := blk_lt K211.out; omega⟩)) HB11.out.size)
      clear hN hb
      have x0 : W12.cell? ⟨w.heap.size, 0, none⟩ = some (.slice A0_0 l0_0.length c0_0) := (blk_cell K112.out 0).trans rfl
      obtain ⟨y0, y1, v0, v1⟩ : W12.cell? ⟨w.heap.size + 1, 0, none⟩ = some (.bool false) ∧ W12.cell? ⟨w.heap.size + 1, 1, none⟩ = some (.slice none 0 0) ∧ W12.frozen? ⟨w.heap.size + 1, 0, none⟩ = false ∧ W12.frozen? ⟨w.heap.size + 1, 1, none⟩ = false := ⟨(blk_cell K212.out 0).trans rfl, (blk_cell K212.out 1).trans rfl, zG K212.out 0, zG K212.out 1⟩
      by_cases cb : 5000 < fl.length
      ·have c16 : decide (((5000 : Nat) : Int) < (fl.length : Int)) = true := zJ (by omega)
       have c17 : decide (5000 < fl.length) = true := zJ cb
       have c18 : decide ((5000 : Int) < (fl.length : Int)) = true := zJ (by omega)
       have HE2 := zA (insM_big HD.out HNO.out (by rw [HIN.out]; have := cb; rw [HFL.out] at this; exact this))
       rw [HE2.out] at HH
       obtain ⟨rfl, rfl⟩ : false = r1 ∧ l0_0 = r2 := by have := HH.out; simpa using this
       clear cb y0 y1 v0 v1
       go_wp2_with fail
       refine (HCOPY.out W12 HB12.out K212.out HR12.out).mono ?_
       rintro e W9 ⟨A9, c9, rfl, hk, hb, hN⟩
       have K29 := zA hk
       have HB9 := zA hb
       have HN9 := zA hN
       obtain ⟨y0, y1, v0, v1⟩ : W9.cell? ⟨w.heap.size + 1, 0, none⟩ = some (.bool false) ∧ W9.cell? ⟨w.heap.size + 1, 1, none⟩ = some (.slice none 0 0) ∧ W9.frozen? ⟨w.heap.size + 1, 0, none⟩ = false ∧ W9.frozen? ⟨w.heap.size + 1, 1, none⟩ = false := ⟨(blk_cell hk 0).trans rfl, (blk_cell hk 1).trans rfl, zG hk 0, zG hk 1⟩
       clear hk hb hN
       go_wp2_with fail
       refine bodyPost_ret (yK rfl _ _ (w.heap.size + 1) 44 #[.bool false, .slice A9 l0_0.length c9] (0, 0) _ rfl (blk_put (blk_put K29.out 0 _ rfl) 1 _ rfl) hu44 rfl (by kernel_rfl)) rfl ⟨_, rfl, ?_, ?_⟩
       ·exact yC (Kd.N_far (p := ⟨w.heap.size + 1, 1, none⟩) (Kd.N_far (p := ⟨w.heap.size + 1, 0, none⟩) HN9.out (fun k hk => hk.2) _) (fun k hk => hk.2) _) (fun k hk => hk.1)
       ·exact below_set (below_set HB9.out (by show w.heap.size ≤ w.heap.size + 1; omega)) (by show w.heap.size ≤ w.heap.size + 1; omega)
      ·have c16 : decide (((5000 : Nat) : Int) < (fl.length : Int)) = false := zK (by omega)
       have c17 : decide (5000 < fl.length) = false := zK cb
       have c18 : decide ((5000 : Int) < (fl.length : Int)) = false := zK (by omega)
       have HE2 := zA (insM_yes HD.out HNO.out (by rw [HIN.out]; have := cb; rw [HFL.out] at this; exact this))
       rw [HE2.out, HIN.out] at HH
       obtain ⟨rfl, hr2⟩ : true = r1 ∧ fl = r2 := by have := HH.out; rw [HFL.out]; simpa [topD] using this
       subst hr2
       clear cb
       go_wp2_with fail
       refine bodyPost_ret (yK rfl _ _ (w.heap.size + 1) 44 #[.bool true, .slice A12 _ c12] (0, 0) _ rfl (blk_put (blk_put K212.out 0 _ rfl) 1 _ rfl) hu44 rfl (by kernel_rfl)) rfl ⟨_, rfl, ?_, ?_⟩
       ·exact yC (Kd.N_far (p := ⟨w.heap.size + 1, 1, none⟩) (Kd.N_far (p := ⟨w.heap.size + 1, 0, none⟩) HN12.out (fun k hk => hk.2) _) (fun k hk => hk.2) _) (fun k hk => hk.1)
       ·exact below_set (below_set HB12.out (by show w.heap.size ≤ w.heap.size + 1; omega)) (by show w.heap.size ≤ w.heap.size + 1; omega)

/-! ### zzv_cut: a text by hand -/
-- uses goesIg_ ta_00 ta_S0 ta_SS kN_open0 kN_openS
-- import Derived.BigQuiet
theorem quiet_val {P : Program} {C : World → Prop} {a : Act} {o : Oper} {K : Act → Prop} {v : Value} (h : ∀ w, C w → (execOp a.eval o).run P w = .ok (.value v) w) (hk : K (a.put o.dst v)) : o.quiet P a C K :=
 ⟨v, fun w hw => by unfold Oper.quietAt; rw [h w hw]; exact ⟨rfl, rfl⟩, hk⟩
theorem quiet_call {P : Program} {C : World → Prop} {a : Act} {o : Oper} {K : Act → Prop} {v : Value} {f : FuncId} {args : Array Value} (hc : ∀ w, C w → Calls P f args w (fun e w'' => e = .returned v ∧ C w'')) (h : ∀ w, C w → (execOp a.eval o).run P w = .ok (.enter f args) w) (hk : K (a.put o.dst v)) : o.quiet P a C K :=
 ⟨v, fun w hw => by unfold Oper.quietAt; rw [h w hw]; exact ⟨rfl, hc w hw⟩, hk⟩
set_option maxHeartbeats 4000000 in
set_option maxRecDepth 100000 in
theorem weight_any {d : Nat} {t : S56} {v : Value} {W : World} {ok : Nat → Prop} (hK : Kd.FK (kN d) W ok t [v]) : Calls Try.prog 80 #[v] W fun e W' => e = .returned (.int .i64 ((sizeD d t : Nat) : Int)) ∧ W' = W := by
 have hu2 := Try.underlying93
 have hu3 := Try.underlying87
 have hta := ta_00
 have hta1 := ta_S0
 have hta2 := ta_SS
 cases d with
 | zero =>
   obtain ⟨b, A, c, ke, kl, kb, kF⟩ := kN_open0 hK
   have hv : v = ifP 58 b := by simpa using ke
   subst hv
   unfold ifP
   have x1 : W.cell? ⟨b, 1, none⟩ = some (.slice A t.f1.length c) := (blk_cell kl.2.2.1 1).trans rfl
   clear ke kl kb kF hK
   go_enter Try.func80, Try.ntmps80
   go_wp2_with fail
   go_ret
   exact ⟨rfl, rfl⟩
 | succ d =>
   obtain ⟨b, A, c, ke, kl, kb, kF⟩ := kN_openS hK
   have hv : v = ifP 79 b := by simpa using ke
   subst hv
   unfold ifP
   have x1 : W.cell? ⟨b, 1, none⟩ = some (.slice A t.f2.length c) := (blk_cell kl.2.2.1 1).trans rfl
   clear ke kl kb kF hK
   go_enter Try.func80, Try.ntmps80
   go_wp2_with fail
   go_ret
   exact ⟨rfl, rfl⟩
set_option maxHeartbeats 8000000 in
set_option maxRecDepth 100000 in
theorem contains_any (key : ByteArray) : ∀ (d : Nat) (r : Bool) (t : S56) (v : Value) (W : World) (ok : Nat → Prop) (_ : Kd.FK (kN d) W ok t [v]) (_ : goodD d r t) (_ : srt (keysD d t)),
   Calls Try.prog 55 #[v, .string key] W fun e W' => e = .returned (.bool (hasK key (keysD d t))) ∧ Below W.heap.size W W' := by
 intro d
 induction d with
 | zero =>
   intro r t v W ok hK hg hs
   obtain ⟨b, A, c, ke, kl, kb, kF⟩ := kN_open0 hK
   have hv : v = ifP 58 b := by simpa using ke
   subst hv
   unfold ifP
   have x1 : W.cell? ⟨b, 1, none⟩ = some (.slice A t.f1.length c) := (blk_cell kl.2.2.1 1).trans rfl
   have hu2 := Try.underlying93
   have hta := ta_00
   obtain ⟨kk, hkk⟩ := (bs_ev2 (l := t.f1) hs (by have := hg.2.2.1; omega) key).rounds
   have HBS := zA hkk
   have HC := zA (Kd.F_now kF)
   have HL := zA kl.2.2.2
   clear ke kl kb kF hK hkk hs hg
   go_enter Try.func55, Try.ntmps55
   go_wp2_with fail
   refine (slices_BinarySearch_string_string.calls kk _ _ _ _ _ _ _ HC.out HL.out HBS.out).mono ?_
   rintro e W1 ⟨rfl, hdr⟩
   have HB := zA hdr.below
   clear hdr
   go_wp2_with fail
   go_ret
   exact ⟨rfl, HB.out⟩
 | succ d ih =>
   intro r t v W ok hK hg hs
   obtain ⟨b, A, c, ke, kl, kb, kF⟩ := kN_openS hK
   have hv : v = ifP 79 b := by simpa using ke
   subst hv
   unfold ifP
   have x1 : W.cell? ⟨b, 1, none⟩ = some (.slice A t.f2.length c) := (blk_cell kl.2.2.1 1).trans rfl
   have hu2 := Try.underlying87
   have hta := ta_S0
   have hta2 := ta_SS
   have h0 : 0 < t.f2.length := by have := hg.2.2.1; omega
   obtain ⟨at_, hat⟩ : ∃ at_, at_ = chI d key t.f2 := ⟨_, rfl⟩
   have hal : at_ < t.f2.length := by rw [hat]; exact chI_lt h0
   have HSP := zA (show hasK key (keysD (d + 1) t) = hasK key (keysD d (t.f2[at_]'hal)) by subst hat; exact has_split h0 hg.2.2.2.2 hs)
   have HCH := zA (child_any kl kF hg key)
   rw [← hat] at HCH
   have HGK := zA (hg.2.2.2.2 _ (List.getElem_mem hal))
   have HSK := zA (srt_kid (show srt ((t.f2.map (keysD d)).flatten) from hs) (List.getElem_mem hal))
   have IH := zA ih
   obtain ⟨ad, v2, rfl, hx, hK2, _⟩ := at_N kF at_ hal
   rw [rd56_at _ _ hal] at hK2
   have HK2 := zA hK2
   have p5 : (0 ≤ (at_ : Int)) = True := eq_true (by omega)
   have q5 : ((at_ : Int) < (t.f2.length : Int)) = True := eq_true (by omega)
   have q6 : (at_ < t.f2.length) = True := eq_true hal
   obtain ⟨C, hC⟩ : ∃ C : World → Prop, C = fun w' => Below W.heap.size W w' := ⟨_, rfl⟩
   have HCW := zA (show C { W with drawn := W.drawn + 1 } by rw [hC]; exact zC (zZ _ _))
   have HCE := zA (show ∀ w', C w' → Below W.heap.size W w' by rw [hC]; exact fun _ h => h)
   have HCL := zA (show ∀ w', C w' → w'.cell? ⟨b, 1, none⟩ = some (.slice (some ad) t.f2.length c) ∧ w'.cell? (ad.add at_) = some v2 by
    rw [hC]; exact fun w' h => ⟨(blk_cell (zH kl.2.2.1 h) 1).trans rfl, (h.cell (block_lt_of_cell hx)).trans hx⟩)
   have HC1 := zA (show ∀ w', C w' → Calls Try.prog 73 #[.pointer (some ⟨b, 0, none⟩), .string key] w' (fun e w'' => e = .returned (.int .i64 (at_ : Int)) ∧ C w'') by
    rw [hC]
    intro w' h
    rw [hat]
    refine (child_any ⟨kl.1, kl.2.1, heap_at h kl.2.2.1, kl.2.2.2⟩ (yF kF h) hg key).mono ?_
    rintro e w'' ⟨rfl, rfl⟩
    exact ⟨rfl, h⟩)
   have HC2 := zA (show ∀ w', C w' → Calls Try.prog 55 #[v2, .string key] w' (fun e w'' => e = .returned (.bool (hasK key (keysD d (t.f2[at_]'hal)))) ∧ C w'') by
    rw [hC]
    intro w' h
    refine (ih false _ v2 w' _ (yE HK2.out h) HGK.out HSK.out).mono ?_
    rintro e w'' ⟨rfl, hb⟩
    exact ⟨rfl, below_lo h hb h.size⟩)
   clear ke kl kb kF hK hs hg ih hat h0 hK2 hx HGK HSK HCH HK2 IH x1 hC
   rw [HSP.out]
   clear HSP
   go_enter Try.func55, Try.ntmps55
   go_wp2_with fail
   refine wp_region_quiet (C := C) (by kernel_rfl) (by kernel_rfl) HCW.out ?_
   simp only []
   repeat (
    first
    | (go_big_quiet_skip)
    | (
      go_big_quiet_want
      first
      | (refine quiet_val (v := ?_) (fun W_ hW_ => ?_) ?_; rotate_left; (focus (go_simp; with_reducible rfl)); go_big_quiet_on; simp only [Act.put, zN, zO, zP, i64_w, i32_w])
      | (refine quiet_val (v := ?_) (fun W_ hW_ => ?_) ?_; rotate_left; (focus (obtain ⟨z0, z1⟩ := HCL.out W_ hW_; go_simp; with_reducible rfl)); go_big_quiet_on; simp only [Act.put, zN, zO, zP, i64_w, i32_w])
      | (refine quiet_call HC1.out (fun W_ hW_ => ?_) ?_; (focus (go_simp; done)); go_big_quiet_on; simp only [Act.put, zN, zO, zP, i64_w, i32_w])
      | (refine quiet_call HC2.out (fun W_ hW_ => ?_) ?_; (focus (go_simp; done)); go_big_quiet_on; simp only [Act.put, zN, zO, zP, i64_w, i32_w])))
   refine wpQuiet_nil ?_
   intro wc hC
   have HB := zA (HCE.out wc hC)
   clear hC
   go_wp2_with fail
   go_ret
   exact ⟨rfl, HB.out⟩

/-! ### zzw_cutn: a text by hand -/
-- uses ta_00 ta_S0 ta_SS kN_open0 kN_openS
def kidsG : Nat → S56 → Prop
 | 0, _ => True
 | d + 1, t => ∀ k ∈ t.f2, goodD d false k
theorem R_Fb {w : World} {base : Nat} {ok : Nat → Prop} {e : Nat} {A : Option Addr} {n c : Nat} {l : List ByteArray} (h : Kd.R Kd.string e w base ok (.slice A n c) l) : Kd.F Kd.string w (fun k => base ≤ k) A n l :=
 Kd.R_F (yA (Kd.R_tight rfl h) (fun k hk => Kd.R_base h k hk.symm))
set_option maxHeartbeats 8000000 in
set_option maxRecDepth 100000 in
theorem cut_any {d : Nat} {t : S56} {v : Value} {W : World} {ok : Nat → Prop} {a b : Nat} (hK : Kd.FK (kN d) W ok t [v]) (hab : a < b) (hb : b ≤ sizeD d t) (h5 : sizeD d t ≤ 5) (hg : kidsG d t) (hd : d ≤ 20) :
   Calls Try.prog 81 #[v, .int .i64 (a : Int), .int .i64 (b : Int)] W fun e W' => ∃ tp b', e = .returned (ifP tp b') ∧ Kd.FK (kN d) W' (fun k => ok k ∨ W.heap.size ≤ k) (partD d t a b) [ifP tp b'] ∧ Below W.heap.size W W' := by
 have hu2 := Try.underlying93
 have hu3 := Try.underlying87
 have hta := ta_00
 have hta1 := ta_S0
 have hta2 := ta_SS
 cases d with
 | zero =>
   obtain ⟨n, A, c, ke, kl, kb, kF⟩ := kN_open0 hK
   have hv : v = ifP 58 n := by simpa using ke
   subst hv
   unfold ifP
   have x1 : W.cell? ⟨n, 1, none⟩ = some (.slice A t.f1.length c) := (blk_cell kl.2.2.1 1).trans rfl
   obtain ⟨i0, hi0, hi1⟩ := Option.map_eq_some_iff.1 (show (Try.prog.info? 9).map (fun i => i.size) = some 1 by kernel_rfl)
   obtain ⟨AX, hcut, HFX, hlx⟩ := cutF_mid (P := Try.prog) 38 9 Try.underlying38 hi0 hi1 kF kl.2.2.2 (Nat.le_of_lt hab) hb
   have HX := zA (And.intro HFX hlx)
   have HC := zA (show b - a ≤ c - a from by have := kl.2.2.2; have : b ≤ t.f1.length := hb; omega)
   have HL := zA (show t.f1.length ≤ 5 from h5)
   have HAB := zA hab
   have HBB := zA (show b ≤ t.f1.length from hb)
   clear ke kl kb kF hK hb h5 hg hd hi0 hi1 HFX hlx hab
   go_enter Try.func81, Try.ntmps81
   go_wp2_with fail
   obtain ⟨l, hl⟩ : ∃ l, l = (t.f1.take b).drop a := ⟨_, rfl⟩
   rw [← hl] at HX
   have HLD := zA hl
   clear hl hcut
   rw [← HX.out.2]
   refine (cloneS_any AX (c - a) l W (Kd.F_now HX.out.1) (by rw [HX.out.2]; exact HC.out) (by rw [HX.out.2]; have := HL.out; have := HC.out; have : b ≤ t.f1.length := HBB.out; omega)).mono ?_
   rintro e W1 ⟨A1, c1, rfl, hR, hb⟩
   have HR1 := zA hR
   have HB1 := zA hb
   clear hR hb x1
   go_wp2_with fail
   refine (newLeaf_any A1 l.length c1 W1).mono ?_
   rintro e W2 ⟨b', rfl, hbs, hbk, hbb⟩
   have HE2 := zA (And.intro hbs (And.intro hbk hbb))
   clear hbs hbk hbb
   go_wp2_with fail
   go_ret
   refine ⟨_, b', rfl, ?_, below_lo HB1.out HE2.out.2.2 HB1.out.size⟩
   have hF2 := yF (R_Fb HR1.out) HE2.out.2.2
   rw [show partD 0 t a b = ⟨true, l, []⟩ by rw [HLD.out]; rfl]
   exact kN_mk0 (c := c1) (A := A1) ⟨rfl, rfl, HE2.out.2.1, (Kd.R_reads' HR1.out).2.1⟩ (Or.inr (yI HB1.out.size HE2.out.1)) (Kd.F_mono hF2 (fun k hk => Or.inr hk))
 | succ d =>
   obtain ⟨n, A, c, ke, kl, kb, kF⟩ := kN_openS hK
   have hv : v = ifP 79 n := by simpa using ke
   subst hv
   unfold ifP
   have x1 : W.cell? ⟨n, 1, none⟩ = some (.slice A t.f2.length c) := (blk_cell kl.2.2.1 1).trans rfl
   obtain ⟨i0, hi0, hi1⟩ := Option.map_eq_some_iff.1 (show (Try.prog.info? 67).map (fun i => i.size) = some 1 by kernel_rfl)
   obtain ⟨AX, hcut, HFX, hlx⟩ := cutF_mid (P := Try.prog) 77 67 Try.underlying77 hi0 (hi1.trans (kN_sz d).symm) kF kl.2.2.2 (Nat.le_of_lt hab) hb
   have HX := zA (And.intro HFX hlx)
   have HC := zA (show b - a ≤ c - a from by have := kl.2.2.2; have : b ≤ t.f2.length := hb; omega)
   have HL := zA (show t.f2.length ≤ 5 from h5)
   have HAB := zA hab
   have HBB := zA (show b ≤ t.f2.length from hb)
   have HG := zA (show ∀ k ∈ t.f2, goodD d false k from hg)
   have HD := zA hd
   clear ke kl kb kF hK hb h5 hg hd hi0 hi1 HFX hlx hab
   go_enter Try.func81, Try.ntmps81
   go_wp2_with fail
   obtain ⟨l, hl⟩ : ∃ l, l = (t.f2.take b).drop a := ⟨_, rfl⟩
   have HGL := zA (show ∀ k ∈ l, goodD d false k from fun k hk => HG.out k (by rw [hl] at hk; exact List.mem_of_mem_take (List.mem_of_mem_drop hk)))
   rw [← hl] at HX
   have HLD := zA hl
   clear hl hcut
   rw [← HX.out.2]
   have HLL := zA (show 0 < l.length ∧ l.length ≤ 5 by rw [HX.out.2]; have := HL.out; have := HAB.out; have := HBB.out; omega)
   refine (cloneN_any AX (c - a) l W HX.out.1 (by rw [HX.out.2]; exact HC.out) (by have := HLL.out; omega) HLL.out.1).mono ?_
   rintro e W1 ⟨A1, c1, rfl, hR, hb⟩
   have HR1 := zA hR
   have HB1 := zA hb
   clear hR hb x1
   go_wp2_with fail
   refine (newInner_any (d := d) (ks := l) (by have := HD.out; omega) HLL.out.2 HGL.out (Kd.N_F HR1.out)).mono ?_
   rintro e W2 ⟨b', rfl, hbs, hbk, hbb⟩
   have HE2 := zA (And.intro hbs (And.intro hbk hbb))
   clear hbs hbk hbb
   go_wp2_with fail
   go_ret
   refine ⟨_, b', rfl, ?_, below_lo HB1.out HE2.out.2.2 HB1.out.size⟩
   have hF2 := yF (Kd.N_F HR1.out) HE2.out.2.2
   rw [show partD (d + 1) t a b = ⟨false, [], l⟩ by rw [HLD.out]; rfl]
   exact kN_mkS (c := c1) (A := A1) ⟨rfl, rfl, HE2.out.2.1, (Kd.N_reads' HR1.out).2.1⟩ (Or.inr (yI HB1.out.size HE2.out.1)) hF2

/-! ### zzw_insS: a text by hand -/
-- import Derived.Shelf.Spec.SlicesInsertGrow
def insS_ren : Go.Shelf.Ren := ⟨fun | 17 => 107 | 22 => 77 | 29 => 94 | 30 => 95 | 36 => 103 | n => n, fun | 24 => 38 | n => n, fun | n => n⟩
theorem insS_lay : Go.Proofs.Lays2.n22 Try.prog insS_ren := {
 mixed := by kernel_rfl
 f17 := Try.func107.trans (congrArg some (by kernel_rfl))
 f22 := Try.func77.trans (congrArg some (by kernel_rfl))
 f29 := Try.func94.trans (congrArg some (by kernel_rfl))
 f30 := Try.func95.trans (congrArg some (by kernel_rfl))
 f36 := Try.func103.trans (congrArg some (by kernel_rfl))
 t0 := Try.underlying0
 a0 := Try.isAgg0
 z0 := Try.sizeOf0
 v0 := Try.zeroValue0
 t3 := Try.underlying3
 a3 := Try.isAgg3
 z3 := Try.sizeOf3
 v3 := Try.zeroValue3
 t4 := Try.underlying4
 a4 := Try.isAgg4
 z4 := Try.sizeOf4
 v4 := Try.zeroValue4
 t9 := Try.underlying9
 a9 := Try.isAgg9
 z9 := Try.sizeOf9
 v9 := Try.zeroValue9
 t24 := Try.underlying38
 a24 := Try.isAgg38
 z24 := Try.sizeOf38
 v24 := Try.zeroValue38
 i9 := info9 }
theorem zero_len (z : Value) (k : Nat) (hz : z.cells.size = 1) : (Builtin.zeroCells z.cells k).toList.length = k := by
 simp [Builtin.zeroCells, hz]
theorem one_str (l : List ByteArray) : ∀ u ∈ l.map Value.string, u.oneCell' = true := by simp [Value.oneCell']
theorem RB_grown {W w' : World} {xs : List Value} {z : Value} {k : Nat} {base e : Nat} (hb : base ≤ W.heap.size) (hz : z.cells.size = 1) {G : Nat} (hG : xs.length ≤ G) (hm : G ≤ maxLen) (hone : ∀ u ∈ xs, u.oneCell' = true) (hk : k = G - xs.length)
  (h : w'.heap[W.heap.size]? = some (.cells (xs.toArray ++ Builtin.zeroCells z.cells k) e (0, 0))) : RB w' e base W.heap.size G xs (Builtin.zeroCells z.cells k).toList := by
 refine ⟨?_, hb, by rw [zero_len z k hz]; omega, hm, hone⟩
 rw [h]
 congr 2
 simp
set_option maxHeartbeats 4000000 in
set_option maxRecDepth 100000 in
theorem insertS_any (n0 : Nat) (w0 W : World) (A : Option Addr) (c : Nat) (l : List ByteArray) (i : Nat) (key : ByteArray) (vb : Nat) (hR : Kd.R Kd.string 9 W n0 (fun _ => True) (.slice A l.length c) l) (hvb : W.heap[vb]? = some (.cells #[.string key] 9 (0, 0))) (hne : some vb ≠ (Value.slice A l.length c).ownBlock) (hi : i ≤ l.length) (h4 : l.length ≤ 5) (hb : n0 ≤ W.heap.size) (hB : Below n0 w0 W) :
  Calls Try.prog 77 #[.slice A l.length c, .int .i64 (i : Int), .slice (some ⟨vb, 0, none⟩) 1 1] W fun e w' => ∃ A' c', e = .returned (.slice A' (l.length + 1) c') ∧ Kd.R Kd.string 9 w' n0 (fun _ => True) (.slice A' (l.length + 1) c') (l.take i ++ key :: l.drop i) ∧ Below n0 w0 w' := by
 have hvs : ∀ j v, [Value.string key][j]? = some v → W.cell? ⟨vb, 0 + j, none⟩ = some v := fun j v hv => by
  rw [Nat.zero_add]
  refine (blk_cell hvb j).trans ?_
  rw [List.getElem?_toArray]
  exact hv
 have h1v : ∀ v ∈ [Value.string key], v.oneCell' = true := by simp [Value.oneCell']
 have hlen : (l.take i ++ key :: l.drop i).length = l.length + 1 := by simp; omega
 rcases RB_of_str hR with ⟨hv, hl⟩ | ⟨g, cap, tail, hv, hr⟩
 ·subst hl
  simp only [List.length_nil, Nat.le_zero] at hi
  subst hi
  injection hv with e1 e2 e3
  subst e1 e3
  refine (Go.Proofs.Any2.slices_Insert_string_end_grow insS_lay none 0 0 vb 0 1 1 [] [.string key] W (by decide) (zY _) (by decide) (by decide) rfl rfl (fun _ => rfl) (fun a h => by cases h) hvs h1v).mono ?_
  rintro e w' ⟨rfl, rfl⟩
  have hrb := RB_grown (e := 9) (G := grownCap W 1 0 9) (k := grownCap W 1 0 9 - 1) (w' := W.drew.alloc (.cells ([Value.string key].toArray ++ Builtin.zeroCells (Value.string ⟨#[]⟩).cells (grownCap W 1 0 9 - 1)) 9)) (base := n0) (z := .string ⟨#[]⟩) (xs := [Value.string key]) hb rfl (grownCap_ge W _ _ _) (grownCap_le_maxLen W 1 0 _ (by decide)) h1v rfl (blk_new W.drew _)
  exact ⟨_, _, rfl, RB.str (l := [key]) hrb, (below_drew hB).alloc hb _⟩
 ·injection hv with e1 e2 e3
  subst e1 e3
  have hcl : (l.map Value.string).length = l.length := List.length_map _
  have hcap := hr.hcap
  rw [hcl] at hcap
  have hne2 : vb ≠ g := fun he => hne (by rw [he]; rfl)
  have hmax := hr.hmax
  by_cases hin : i < l.length
  ·by_cases hroom : l.length + 1 ≤ c
   ·refine (Go.Proofs.Any2.slices_Insert_string_shift insS_lay g 0 l.length c i vb 0 1 1 (l.map Value.string) [.string key] W hin (by decide) hroom (by unfold maxLen at hmax; omega) hne2 hcl rfl hr.cells (fun j hj => hr.isS j (by omega)) (fun j _ => hr.frozen _) hvs (one_str l) h1v 9 9 1 c (by simp [World.shape?, hvb]) (by simp [World.shape?, hr.blk, hcap]) (by omega) (zG hvb _) (zG hvb _)).mono ?_
    rintro e w' ⟨rfl, rfl⟩
    simp only [Nat.zero_add]
    cases ht : tail with
    | nil => rw [ht] at hcap; simp at hcap; omega
    | cons t0 tail' =>
      have hblk : W.drew.heap[g]? = some (.cells ((l.map Value.string).take (i + 1) ++ ((l.map Value.string).drop (i + 1) ++ [t0]) ++ tail').toArray 9 (0, 0)) := by
       have := hr.blk
       rw [ht] at this
       rw [show (l.map Value.string).take (i + 1) ++ ((l.map Value.string).drop (i + 1) ++ [t0]) ++ tail' = l.map Value.string ++ t0 :: tail' by rw [← List.append_assoc, List.take_append_drop]; simp]
       exact this
      have h1 := heap_setCells_at ((l.map Value.string).drop i) W.drew _ _ _ hblk (by simp; omega)
      rw [show ((l.map Value.string).take (i + 1)).length = i + 1 by simp; omega] at h1
      have h2 : (W.drew.setCells g (i + 1) ((l.map Value.string).drop i)).heap[g]? = some (.cells ((l.map Value.string).take i ++ [(l.map Value.string)[i]'(by simp; omega)] ++ ((l.map Value.string).drop i ++ tail')).toArray 9 (0, 0)) := by
       rw [h1]
       congr 3
       rw [List.take_add_one, List.getElem?_eq_getElem (by simp; omega)]
       simp
      have h3 := heap_setCells_at [.string key] _ _ _ _ h2 rfl
      rw [show ((l.map Value.string).take i).length = i by simp; omega] at h3
      refine ⟨_, _, rfl, ?_, below_setCells hr.bas _ _ _ (below_setCells hr.bas _ _ _ (below_drew hB))⟩
      have hrb : RB ((W.drew.setCells g (i + 1) ((l.map Value.string).drop i)).setCells g i [.string key]) 9 n0 g c ((l.take i ++ key :: l.drop i).map Value.string) tail' := ⟨by rw [h3]; congr 3; simp, hr.bas, by rw [List.length_map, hlen, hcap, ht]; simp; omega, hmax, one_str _⟩
      have := hrb.str
      rw [hlen] at this
      exact this
   ·refine (Go.Proofs.Any2.slices_Insert_string_grow insS_lay g 0 l.length c i vb 0 1 1 (l.map Value.string) [.string key] W hin (by decide) (by omega) (by omega) (by omega) hcl rfl hr.cells hvs (one_str l) h1v).mono ?_
    rintro e w' ⟨rfl, rfl⟩
    obtain ⟨G, hG⟩ : ∃ G, G = grownCap W (l.length + 1) c (insS_ren.t 9) := ⟨_, rfl⟩
    have hGe : l.length + 1 ≤ G := by rw [hG]; exact grownCap_ge W _ _ _
    have hGm : G ≤ maxLen := by rw [hG]; exact grownCap_le_maxLen W _ _ _ (by unfold maxLen; omega)
    rw [← hG]
    obtain ⟨Z1, hZ1⟩ : ∃ Z1, Z1 = (Builtin.zeroCells (Value.string ⟨#[]⟩).cells (l.length + 1 - i)).toList := ⟨_, rfl⟩
    obtain ⟨Z2, hZ2⟩ : ∃ Z2, Z2 = (Builtin.zeroCells (Value.string ⟨#[]⟩).cells (G - (l.length + 1))).toList := ⟨_, rfl⟩
    have hl1 : Z1.length = l.length + 1 - i := by rw [hZ1]; exact zero_len _ _ rfl
    have hl2 : Z2.length = G - (l.length + 1) := by rw [hZ2]; exact zero_len _ _ rfl
    have hti : ((l.map Value.string).take i).length = i := by simp; omega
    have h0 : (W.alloc (.cells (((l.map Value.string).take i).toArray ++ Builtin.zeroCells (Value.string ⟨#[]⟩).cells (l.length + 1 - i) ++ Builtin.zeroCells (Value.string ⟨#[]⟩).cells (G - (l.length + 1))) (insS_ren.t 9))).drew.heap[W.heap.size]? = some (.cells ((l.map Value.string).take i ++ Z1.take 1 ++ (Z1.drop 1 ++ Z2)).toArray 9 (0, 0)) := by
      refine (blk_new W _).trans ?_
      rw [← List.append_assoc, List.append_assoc _ (Z1.take 1), List.take_append_drop, hZ1, hZ2]
      congr 2
      simp
    have h1 := heap_setCells_at [.string key] _ _ _ _ h0 (by rw [zW, hl1]; simp; omega)
    rw [hti] at h1
    have h2 := heap_setCells_at (t := 9) ((l.map Value.string).drop i) _ ((l.map Value.string).take i ++ [.string key]) (Z1.drop 1) Z2 (by rw [h1]; simp) (by rw [zX, hl1]; simp; omega)
    rw [List.length_append, hti] at h2
    refine ⟨_, _, rfl, ?_, below_setCells hb _ _ _ (below_drew (below_setCells hb _ _ _ (below_drew (hB.alloc hb _))))⟩
    have hrb : RB _ 9 n0 W.heap.size G ((l.take i ++ key :: l.drop i).map Value.string) Z2 := ⟨by rw [show ((l.take i ++ key :: l.drop i).map Value.string) ++ Z2 = ((l.map Value.string).take i ++ [.string key]) ++ (l.map Value.string).drop i ++ Z2 by simp]; exact h2, hb, by rw [List.length_map, hlen, hl2]; omega, hGm, one_str _⟩
    have := hrb.str
    rw [hlen] at this
    rw [← Go.Proofs.drew_setCells]
    exact Kd.R_drew this
  ·have hin2 : i = l.length := by omega
   subst hin2
   rw [List.take_length, List.drop_length] at hlen ⊢
   by_cases hroom : l.length + 1 ≤ c
   ·refine (Go.Proofs.Any2.slices_Insert_string_end_room insS_lay g 0 l.length c vb 0 1 1 [.string key] W (by decide) hroom (by unfold maxLen at hmax; omega) rfl (fun j hj => by have := hr.isS (l.length + j) (by omega); simpa [Nat.add_assoc] using this) (fun j _ => hr.frozen _) hvs h1v).mono ?_
    rintro e w' ⟨rfl, rfl⟩
    cases ht : tail with
    | nil => rw [ht] at hcap; simp at hcap; omega
    | cons t0 tail' =>
      have hblk := hr.blk
      rw [ht] at hblk
      have h1 := heap_setCells_at (t := 9) [.string key] W (l.map Value.string) [t0] tail' (by rw [hblk]; simp) rfl
      rw [hcl] at h1
      refine ⟨_, _, rfl, ?_, below_setCells hr.bas _ _ _ hB⟩
      have hrb : RB (W.setCells g (0 + l.length) [.string key]) 9 n0 g c ((l ++ [key]).map Value.string) tail' := ⟨by rw [Nat.zero_add, h1]; congr 3; simp, hr.bas, by rw [List.length_map, hlen, hcap, ht]; simp; omega, hmax, one_str _⟩
      have := hrb.str
      rw [hlen] at this
      exact this
   ·refine (Go.Proofs.Any2.slices_Insert_string_end_grow insS_lay (some ⟨g, 0, none⟩) l.length c vb 0 1 1 (l.map Value.string) [.string key] W (by decide) (by omega) (by omega) (by omega) hcl rfl (fun h => by cases h) (fun a ha j v hv => by injection ha with ha; subst ha; rw [Addr.add_lit]; exact hr.cells j v hv) hvs h1v).mono ?_
    rintro e w' ⟨rfl, rfl⟩
    have hrb := RB_grown (e := 9) (G := grownCap W (l.length + 1) c 9) (k := grownCap W (l.length + 1) c 9 - (l.length + 1)) (w' := W.drew.alloc (.cells ((l.map Value.string ++ [Value.string key]).toArray ++ Builtin.zeroCells (Value.string ⟨#[]⟩).cells (grownCap W (l.length + 1) c 9 - (l.length + 1))) 9)) (base := n0) (z := .string ⟨#[]⟩) (xs := l.map Value.string ++ [Value.string key]) hb rfl (by simp; exact grownCap_ge W _ _ _) (grownCap_le_maxLen W _ _ _ (by unfold maxLen; omega)) (fun u hu => (List.mem_append.1 hu).elim (one_str l u) (h1v u)) (by simp) (blk_new W.drew _)
    have hrb2 : RB (W.drew.alloc (.cells ((l.map Value.string ++ [Value.string key]).toArray ++ Builtin.zeroCells (Value.string ⟨#[]⟩).cells (grownCap W (l.length + 1) c 9 - (l.length + 1))) 9)) 9 n0 W.heap.size (grownCap W (l.length + 1) c 9) ((l ++ [key]).map Value.string) (Builtin.zeroCells (Value.string ⟨#[]⟩).cells (grownCap W (l.length + 1) c 9 - (l.length + 1))).toList := by
      rw [List.map_append]
      exact hrb
    have := hrb2.str
    rw [hlen] at this
    exact ⟨_, _, rfl, this, (below_drew hB).alloc hb _⟩

/-! ### zzx_lay0: a text by hand -/
-- an element lent: a row of its own appended to, and stored back
section
variable {W W1 : World} {base g n cap : Nat} {ok oki : Nat → Prop} {xs : List S90} {i : Int} {b0 : Bool} {v1 v2 v' : Value} {c3 : Int} {l1 l1' : List ByteArray} {l2 l2' : List Int}
theorem El.row (h : El W base ok g n cap xs i oki b0 v1 v2 c3 l1 l2) (h0 : 0 ≤ i) (h1 : i < n) : ok g ∧ base ≤ g ∧ g < W.heap.size ∧ ∃ cells, W.heap[g]? = some (.cells cells 90 (0, 0)) := by
 have hS := El.close h
 have hn : n = (xs.set i.toNat ⟨b0, l1, l2, c3⟩).length := (Kd.S_reads' hS).1
 obtain ⟨g', cap', e, hb, hl, hc⟩ := Kd.S_form hS (by omega)
 injection e with e1 e2 e3
 injection e1 with e1
 injection e1 with e1
 subst e1
 exact ⟨(Kd.S_R hS).1 g rfl, hb, hl, hc⟩
theorem El.move (h : El W base ok g n cap xs i oki b0 v1 v2 c3 l1 l2) (h0 : 0 ≤ i) (h1 : i < n) (hb : W1.heap[g]? = W.heap[g]?) :
  W1.cell? ⟨g, i.toNat * 4, none⟩ = some (.bool b0) ∧ W1.cell? ⟨g, i.toNat * 4 + 1, none⟩ = some v1 ∧ W1.cell? ⟨g, i.toNat * 4 + 2, none⟩ = some v2 ∧ W1.cell? ⟨g, i.toNat * 4 + 3, none⟩ = some (.int .i64 c3) ∧ ∀ j, W1.frozen? ⟨g, j, none⟩ = false := by
 obtain ⟨x0, x1, x2, x3, _⟩ := h.cells h0 h1
 obtain ⟨_, _, _, cells, hc⟩ := h.row h0 h1
 have hc1 := hb.trans hc
 have hcell : ∀ j, W1.cell? ⟨g, j, none⟩ = W.cell? ⟨g, j, none⟩ := fun j => by simp [World.cell?, hb]
 exact ⟨(hcell _).trans x0, (hcell _).trans x1, (hcell _).trans x2, (hcell _).trans x3, fun j => zG hc1 j⟩
theorem El.own1 (h : El W base ok g n cap xs i oki b0 v1 v2 c3 l1 l2) : some g ≠ v1.ownBlock := fun he => (h.k g (h.g1.1 g he.symm)).2 rfl
theorem El.own2 (h : El W base ok g n cap xs i oki b0 v1 v2 c3 l1 l2) : some g ≠ v2.ownBlock := fun he => (h.k g (h.g2.1 g he.symm)).2 rfl
theorem El.push1 (h : El W base ok g n cap xs i oki b0 v1 v2 c3 l1 l2) (h0 : 0 ≤ i) (h1 : i < n) (hfr : ∀ k, W.heap.size ≤ k → ok k) (hR : Kd.R Kd.string 9 W1 base (fun k => oki k ∨ W.heap.size ≤ k) v' l1') (hg : W.grownBy W1 v1.ownBlock) :
  Kd.S k90 90 (W1.setCell ⟨g, i.toNat * 4 + 1, none⟩ v') base ok (.slice (some ⟨g, 0, none⟩) n cap) (xs.set i.toNat ⟨b0, l1', l2, c3⟩) ∧ Kept W (W1.setCell ⟨g, i.toNat * 4 + 1, none⟩ v') ok := by
 obtain ⟨hgo, _, hgl, _⟩ := h.row h0 h1
 obtain ⟨A', c', rfl⟩ := Kd.R_slice hR
 have hH := Kd.H_grown (Kd.H_widen h.h) hg (fun k hk => Or.inl (h.g1.1 k hk))
 obtain ⟨hs, hgr⟩ := Kd.H_seg hH h0 h1 (seg := [.slice A' l1'.length c']) (j := 1) (show 2 ≤ 4 by decide) (fun q hq => by simp at hq; subst hq; rfl)
 have hne : ∀ k, (oki k ∨ ok k ∧ W.heap.size ≤ k) → some k ≠ some g := fun k hk he => by
  injection he with he
  rcases hk with hk | hk
  ·exact (h.k k hk).2 he
  ·have := hk.2; omega
 have g1 : Kd.R Kd.string 9 (W1.setCell ⟨g, i.toNat * 4 + 1, none⟩ (.slice A' l1'.length c')) base (fun k => oki k ∨ ok k ∧ W.heap.size ≤ k) (.slice A' l1'.length c') l1' :=
  Kd.R_grown (yA hR (fun k hk => hk.imp id (fun h => ⟨hfr k h, h⟩))) hgr hne
 have g2 : Kd.R (Kd.int .i64) 2 (W1.setCell ⟨g, i.toNat * 4 + 1, none⟩ (.slice A' l1'.length c')) base (fun k => oki k ∨ ok k ∧ W.heap.size ≤ k) v2 l2 :=
  Kd.R_grown (yA (Kd.R_drop (Kd.R_step (Kd.R_apartR h.g2 h.g1 (by decide)) (fun k hk' hlt => hg.block k hlt hk'.2))) (fun k hk => Or.inl hk)) hgr hne
 refine ⟨Kd.H_back hs (k90_mkM _ base _ ⟨b0, l1', l2, c3⟩ g1 g2) (fun _ hk => hk), ?_⟩
 exact Kept.of_grown hgr (Kept.of_grown hg (Kept.refl W ok) (fun k hk => Or.inl (h.k k (h.g1.1 k hk)).1)) (fun k hk => by injection hk with hk; subst hk; exact Or.inl hgo)
theorem El.push2 (h : El W base ok g n cap xs i oki b0 v1 v2 c3 l1 l2) (h0 : 0 ≤ i) (h1 : i < n) (hfr : ∀ k, W.heap.size ≤ k → ok k) (hR : Kd.R (Kd.int .i64) 2 W1 base (fun k => oki k ∨ W.heap.size ≤ k) v' l2') (hg : W.grownBy W1 v2.ownBlock) :
  Kd.S k90 90 (W1.setCell ⟨g, i.toNat * 4 + 2, none⟩ v') base ok (.slice (some ⟨g, 0, none⟩) n cap) (xs.set i.toNat ⟨b0, l1, l2', c3⟩) ∧ Kept W (W1.setCell ⟨g, i.toNat * 4 + 2, none⟩ v') ok := by
 obtain ⟨hgo, _, hgl, _⟩ := h.row h0 h1
 obtain ⟨A', c', rfl⟩ := Kd.R_slice hR
 have hH := Kd.H_grown (Kd.H_widen h.h) hg (fun k hk => Or.inl (h.g2.1 k hk))
 obtain ⟨hs, hgr⟩ := Kd.H_seg hH h0 h1 (seg := [.slice A' l2'.length c']) (j := 2) (show 3 ≤ 4 by decide) (fun q hq => by simp at hq; subst hq; rfl)
 have hne : ∀ k, (oki k ∨ ok k ∧ W.heap.size ≤ k) → some k ≠ some g := fun k hk he => by
  injection he with he
  rcases hk with hk | hk
  ·exact (h.k k hk).2 he
  ·have := hk.2; omega
 have g2 : Kd.R (Kd.int .i64) 2 (W1.setCell ⟨g, i.toNat * 4 + 2, none⟩ (.slice A' l2'.length c')) base (fun k => oki k ∨ ok k ∧ W.heap.size ≤ k) (.slice A' l2'.length c') l2' :=
  Kd.R_grown (yA hR (fun k hk => hk.imp id (fun h => ⟨hfr k h, h⟩))) hgr hne
 have g1 : Kd.R Kd.string 9 (W1.setCell ⟨g, i.toNat * 4 + 2, none⟩ (.slice A' l2'.length c')) base (fun k => oki k ∨ ok k ∧ W.heap.size ≤ k) v1 l1 :=
  Kd.R_grown (yA (Kd.R_drop (Kd.R_step (Kd.R_apartR h.g1 h.g2 (by decide)) (fun k hk' hlt => hg.block k hlt hk'.2))) (fun k hk => Or.inl hk)) hgr hne
 refine ⟨Kd.H_back hs (k90_mkM _ base _ ⟨b0, l1, l2', c3⟩ g1 g2) (fun _ hk => hk), ?_⟩
 exact Kept.of_grown hgr (Kept.of_grown hg (Kept.refl W ok) (fun k hk => Or.inl (h.k k (h.g2.1 k hk)).1)) (fun k hk => by injection hk with hk; subst hk; exact Or.inl hgo)
end
theorem El.after1 {W W1 : World} {base g n cap a : Nat} {ok oki : Nat → Prop} {xs : List S90} {b0 : Bool} {v1 v2 v' : Value} {c3 : Int} {l1 l1' : List ByteArray} {l2 : List Int} (h : El W base ok g n cap xs (a : Int) oki b0 v1 v2 c3 l1 l2) (h1 : a < n) (hfr : ∀ k, W.heap.size ≤ k → ok k) (hR : Kd.R Kd.string 9 W1 base (fun k => oki k ∨ W.heap.size ≤ k) v' l1') (hg : W.grownBy W1 v1.ownBlock) :
  W1.cell? ⟨g, a * 4 + 1, none⟩ = some v1 ∧ W1.frozen? ⟨g, a * 4 + 1, none⟩ = false ∧ Kd.S k90 90 (W1.setCell ⟨g, a * 4 + 1, none⟩ v') base ok (.slice (some ⟨g, 0, none⟩) n cap) (xs.set a ⟨b0, l1', l2, c3⟩) ∧ Kept W (W1.setCell ⟨g, a * 4 + 1, none⟩ v') ok := by
 obtain ⟨_, _, hgl, _⟩ := h.row (Int.natCast_nonneg a) (by omega)
 obtain ⟨_, z1, _, _, fz⟩ := h.move (W1 := W1) (Int.natCast_nonneg a) (by omega) (hg.block g hgl h.own1)
 have hp := h.push1 (Int.natCast_nonneg a) (by omega) hfr hR hg
 simp only [Int.toNat_natCast] at z1 hp
 exact ⟨z1, fz _, hp.1, hp.2⟩
theorem El.after2 {W W1 : World} {base g n cap a : Nat} {ok oki : Nat → Prop} {xs : List S90} {b0 : Bool} {v1 v2 v' : Value} {c3 : Int} {l1 : List ByteArray} {l2 l2' : List Int} (h : El W base ok g n cap xs (a : Int) oki b0 v1 v2 c3 l1 l2) (h1 : a < n) (hfr : ∀ k, W.heap.size ≤ k → ok k) (hR : Kd.R (Kd.int .i64) 2 W1 base (fun k => oki k ∨ W.heap.size ≤ k) v' l2') (hg : W.grownBy W1 v2.ownBlock) :
  W1.cell? ⟨g, a * 4 + 2, none⟩ = some v2 ∧ W1.frozen? ⟨g, a * 4 + 2, none⟩ = false ∧ Kd.S k90 90 (W1.setCell ⟨g, a * 4 + 2, none⟩ v') base ok (.slice (some ⟨g, 0, none⟩) n cap) (xs.set a ⟨b0, l1, l2', c3⟩) ∧ Kept W (W1.setCell ⟨g, a * 4 + 2, none⟩ v') ok := by
 obtain ⟨_, _, hgl, _⟩ := h.row (Int.natCast_nonneg a) (by omega)
 obtain ⟨_, _, z2, _, fz⟩ := h.move (W1 := W1) (Int.natCast_nonneg a) (by omega) (hg.block g hgl h.own2)
 have hp := h.push2 (Int.natCast_nonneg a) (by omega) hfr hR hg
 simp only [Int.toNat_natCast] at z2 hp
 exact ⟨z2, fz _, hp.1, hp.2⟩
theorem set_midN {α : Type} (pre : List α) (x y : α) (rest : List α) {a : Nat} (h : a = pre.length) : (pre ++ x :: rest).set a y = pre ++ y :: rest := by
 subst h
 rw [List.set_append_right _ _ (zY _)]
 simp

/-! ### zzx_lay1: a text by hand -/
-- uses ta_00 ta_S0 ta_SS kN_open0 kN_openS at_N noL_take sepL_take below_lo goesIg_
-- import Derived.WalkLawsBesides
structure LayEnd (base : Nat) (ok : Nat → Prop) (w0 W : World) (l : List S90) (e : Ending) (W' : World) : Prop where
 h : ∃ v', e = .returned v' ∧ Kd.S k90 90 W' base (fun k => ok k ∨ W.heap.size ≤ k) v' l
 b : Below base w0 W'
 k : Kept W W' ok
set_option maxHeartbeats 8000000 in
set_option maxRecDepth 100000 in
theorem lay0_any (base : Nat) (w0 W : World) (A : Option Addr) (c : Nat) (xs : List S90) (ok okn : Nat → Prop) (t : S56) (nv : Value) (h4 : t.f1.length ≤ 5) (hS : Kd.S k90 90 W base ok (.slice A xs.length c) xs) (hK : Kd.FK (kN 0) W okn t [nv]) (hB : Below base w0 W) (hb : base ≤ W.heap.size) (hl : xs.length ≤ 1099511627776) :
  Calls Try.prog 38 #[.slice A xs.length c, nv] W fun e W' => LayEnd base ok w0 W (xs ++ flatD 0 t xs.length) e W' := by
 obtain ⟨n, A1, c1, ke, kl, kb, kF⟩ := kN_open0 hK
 have hv : nv = ifP 58 n := by simpa using ke
 subst hv
 unfold ifP
 have hu2 := Try.underlying93
 have hu3 := Try.underlying85
 have hta := ta_00
 have HX := zA kl.2.2.1
 have HL := zA (And.intro kl.2.2.2 h4)
 have HC := zA (Kd.F_now kF)
 have HS := zA hS
 have HB := zA hB
 have HZ := zA (And.intro hb hl)
 have x0 : W.cell? ⟨n, 0, none⟩ = some (.int .i64 (t.f1.length : Nat)) := (blk_cell kl.2.2.1 0).trans rfl
 have x1 : W.cell? ⟨n, 1, none⟩ = some (.slice A1 t.f1.length c1) := (blk_cell kl.2.2.1 1).trans rfl
 clear ke kl kb kF hK hS hB hb hl h4
 go_enter Try.func38, Try.ntmps38
 go_wp2_with fail
 go_region_law (first
  | (go_simp
     go_at_call 61
     refine (cloneS_any A1 c1 t.f1 W.drew (zT HC.out) HL.out.1 (by have := HL.out.2; omega)).mono ?_
     rintro e W1 ⟨A2, c2, rfl, hR, hbb⟩
     have HR1 := zA hR
     have HB1 := zA hbb
     have HX1 := zA (zH (zE HX.out) hbb)
     clear hR hbb x0 x1
     have x0 : W1.cell? ⟨n, 0, none⟩ = some (.int .i64 (t.f1.length : Nat)) := (blk_cell HX1.out 0).trans rfl
     have x1 : W1.cell? ⟨n, 1, none⟩ = some (.slice A1 t.f1.length c1) := (blk_cell HX1.out 1).trans rfl)
  | (have hsz : W.heap.size ≤ W1.heap.size := HB1.out.size
     have hle : base ≤ W1.heap.size := yI HZ.out.1 hsz
     have hE0 := zA (Kd.R_base HR1.out)
     refine Kd.S_append_step k90 (w0 := w0) (W := W1) base (by rfl) (.tmp 16) (.tmp 28) 22 90 (.agg #[(.bool false), (.slice none 0 0), (.slice none 0 0), (.int .i64 0)]) 64 rfl Try.underlying22 info90 rfl (by decide) (by omega) (.slice A xs.length c) xs ⟨true, t.f1, [], (t.f1.length : Nat)⟩ [.bool true, .slice A2 t.f1.length c2, .slice none 0 0, .int .i64 (t.f1.length : Nat)] (fun k => ok k ∨ W.heap.size ≤ k) (fun k => W.heap.size ≤ k) rfl rfl ?aP ?aK ?aF ?aO ?aB ?aS ?aL ?_
     case aP => exact k90_mkM _ _ _ (⟨true, t.f1, [], (t.f1.length : Nat)⟩ : S90) (Kd.R_lower (yA (Kd.R_tight rfl HR1.out) (fun k hk => hE0.out k hk.symm)) HZ.out.1) (Kd.R_nil _ _ _ _ _)
     case aK => exact fun k hk => ⟨Or.inr hk, fun he => Nat.lt_irrefl _ (yJ (Kd.S_lt HS.out k he.symm) hk)⟩
     case aF => exact fun k hk => Or.inr (yI hsz hk)
     case aO => exact yB (Kd.S_below (Kd.S_drew (Kd.S_bound HS.out)) HB1.out) (fun k hk => ⟨Or.inl hk.1, Nat.not_le.2 hk.2.2.1⟩)
     case aB => exact below_lo (below_drew HB.out) HB1.out HZ.out.1
     case aS => exact hle
     case aL => have := HZ.out.2; simp; omega
     intro v9 w9 ho hbb hg hat
     have HO9 := zA ho
     have HB9 := zA hbb
     have HK9 := zA (Kept.of_grown hg (Kept.below (Kept.drew (Kept.refl W ok)) HB1.out) (fun k hk => Or.inl ((Kd.S_R HS.out).1 k hk)))
     clear ho hbb hg hat x0 x1))
 all_goals
  go_wp2_with fail
  go_ret
  exact ⟨⟨_, rfl, by rw [show flatD 0 t xs.length = [⟨true, t.f1, [], (t.f1.length : Nat)⟩] from rfl]; exact HO9.out⟩, HB9.out, HK9.out⟩

/-! ### zzx_lay2: a text by hand -/
-- uses rd90_at pow4 run_invoke goodD_false
-- import Derived.WalkLawsBesides
def lay.gT13 : Bool × List (List Nat × List Nat) := (true, [([], []), ([], []), ([], []), ([], []), ([2, 3], [2, 3]), ([4], [4]), ([5], [5]), ([], []), ([7], [7]), ([8], [8]), ([6, 9, 8], [6, 9]), ([0, 1, 0, 1, 2, 3, 4, 5, 6, 7, 8, 9, 10], [0, 1]), ([11, 0, 1, 2, 3, 4, 5, 6, 7, 8, 9, 10], [11]), ([12, 10, 10, 0, 1, 2, 3, 4, 5, 6, 7, 8, 9, 10], [10, 12])])
def lay.gB13 : List Nat := [0, 0, 0, 0, 12, 28, 60, 0, 128, 384, 1020, 2047, 4095, 8191]
theorem lay.gtab13 : rtab .any (opsOf Try.f38 13) = lay.gT13 := by kernel_rfl
theorem lay.gbits13 : waitsOk lay.gT13.2 lay.gB13 = true := by kernel_rfl
theorem rd90_mid (xs : List S90) (y : S90) (rs : List S90) : rd_T90 (xs ++ y :: rs) (xs.length : Int) = y := by
 rw [rd90_at _ _ (by simp)]
 simp
set_option maxHeartbeats 32000000 in
set_option maxRecDepth 100000 in
theorem lay_any (base : Nat) (w0 : World) : ∀ (d : Nat) (r : Bool) (t : S56) (nv : Value) (W : World) (A : Option Addr) (c : Nat) (xs : List S90) (ok okn : Nat → Prop) (_ : goodD d r t) (_ : d ≤ 13) (_ : Kd.S k90 90 W base ok (.slice A xs.length c) xs) (_ : Kd.FK (kN d) W okn t [nv]) (_ : ∀ k, okn k → ¬ ok k) (_ : Below base w0 W) (_ : base ≤ W.heap.size) (_ : xs.length + (d + 1) * 1073741824 ≤ 1099511627776),
   Calls Try.prog 38 #[.slice A xs.length c, nv] W fun e W' => LayEnd base ok w0 W (xs ++ flatD d t xs.length) e W' := by
 intro d
 induction d with
 | zero =>
   intro r t nv W A c xs ok okn hg hd hS hK _ hB hb hl
   exact lay0_any base w0 W A c xs ok okn t nv (by have := hg.2.2.1; omega) hS hK hB hb (by omega)
 | succ d ih =>
   intro r t nv W A c xs ok okn hg hd hS hK hdis hB hb hl
   obtain ⟨n, A1, c1, ke, kl, kb, kF⟩ := kN_openS hK
   have hv : nv = ifP 79 n := by simpa using ke
   subst hv
   unfold ifP
   have hu2 := Try.underlying87
   have hu3 := Try.underlying85
   have hta := ta_S0
   have hta2 := ta_SS
   obtain ⟨a, ha⟩ : ∃ a, a = xs.length := ⟨_, rfl⟩
   obtain ⟨kn, hkn⟩ : ∃ kn, kn = (keysD (d + 1) t).length := ⟨_, rfl⟩
   have hX := kl.2.2.1
   rw [← hkn] at hX
   rw [← ha] at hS hl ⊢
   have HFD := zA (show flatD (d + 1) t (a : Int) = ⟨false, sepL d t.f2, noL (flatD d) t.f2 ((a : Int) + 1), (kn : Int)⟩ :: flatL (flatD d) t.f2 ((a : Int) + 1) by rw [hkn]; rfl)
   have HAX := zA ha
   have HX := zA hX
   have XN := zA kb
   have HFW := zA (Kd.F_mono (ok' := fun k => okn k ∧ k < W.heap.size) (Kd.F_bound kF) (fun k hk => hk))
   have HDIS := zA (show ∀ k, (okn k ∧ k < W.heap.size) → ¬ (ok k ∨ W.heap.size ≤ k) from fun k hk h => h.elim (hdis k hk.1) (fun h2 => by have := hk.2; omega))
   have HG := zA hg
   have HD := zA hd
   have HS := zA hS
   have HB := zA hB
   have HZ := zA (And.intro hb hl)
   have IH := zA ih
   have x0 : W.cell? ⟨n, 0, none⟩ = some (.int .i64 (kn : Int)) := (blk_cell hX 0).trans rfl
   have x1 : W.cell? ⟨n, 1, none⟩ = some (.slice A1 t.f2.length c1) := (blk_cell hX 1).trans rfl
   clear ke kl kb kF hK hdis hS hB hb hl hg hd ih hkn hX ha
   go_enter Try.func38, Try.ntmps38
   go_wp2_with ((with_reducible refine gate_builtin (b := .append) (xs := #[.tmp 33, .tmp 40]) rfl ?_); at_builtin; refine Kd.S_append k90 (w0 := w0) (W := W) base rfl (.tmp 33) (.tmp 40) 22 90 (.agg #[(.bool false), (.slice none 0 0), (.slice none 0 0), (.int .i64 0)]) 64 rfl Try.underlying22 info90 rfl (by decide) (by omega) (.slice A a c) xs ⟨false, [], [], (kn : Int)⟩ [.bool false, .slice none 0 0, .slice none 0 0, .int .i64 (kn : Int)] (fun k => ok k ∨ W.heap.size ≤ k) (fun _ => False) rfl rfl ?aP ?aK ?aF ?aO ?aB ?aS ?aL ?_; (case aP => exact k90_mkM _ _ _ (⟨false, [], [], (kn : Int)⟩ : S90) (Kd.R_nil _ _ _ _ _) (Kd.R_nil _ _ _ _ _)); (case aK => exact fun k hk => hk.elim); (case aF => exact fun k hk => Or.inr hk); (case aO => exact yB HS.out (fun k hk => ⟨Or.inl hk, fun h => h⟩)); (case aB => exact HB.out); (case aS => exact HZ.out.1); (case aL => have := HZ.out.2; rw [← HAX.out]; omega); intro v9 w9 ho hbb hg hat; have HO9 := zA ho; have HB9 := zA hbb; have HK9 := zA (Kept.of_grown (S := ok) hg (Kept.refl W ok) (fun k hk => Or.inl ((Kd.S_R HS.out).1 k hk))); have HX9 := zA (blk_grown HX.out hg (fun he => HDIS.out n ⟨XN.out, blk_lt HX.out⟩ (Or.inl ((Kd.S_R HS.out).1 n he.symm)))); have x1 : w9.cell? ⟨n, 1, none⟩ = some (.slice A1 t.f2.length c1) := (blk_cell HX9.out 1).trans rfl; clear ho hbb hg hat x0)
   obtain ⟨A9, c9, e9⟩ := Kd.S_slice HO9.out
   subst e9
   obtain ⟨nL, hnL⟩ : ∃ nL, nL = (xs ++ [(⟨false, [], [], (kn : Int)⟩ : S90)]).length := ⟨_, rfl⟩
   rw [← hnL] at HO9 ⊢
   have HNL := zA (show nL = a + 1 + ([] : List S90).length by rw [hnL, HAX.out]; simp)
   clear hnL x1
   go_loopg [0, 8, 9, 47] t.f2.length (fun kq v0 v8 v9 v47 w' => ∃ (j : Nat) (A3 : Option Addr) (c3 nL : Nat) (ks : List ByteArray) (is : List Int) (rs : List S90), v47 = .int .i64 (j : Int) ∧ v0 = .slice A3 nL c3 ∧ Aside0 (j ≤ t.f2.length ∧ t.f2.length ≤ kq + j) ∧ Aside0 (nL = a + 1 + rs.length) ∧ Aside0 (ks = sepL d (t.f2.take j) ∧ is = noL (flatD d) (t.f2.take j) ((a : Int) + 1) ∧ rs = flatL (flatD d) (t.f2.take j) ((a : Int) + 1)) ∧ Aside0 (Kd.S k90 90 w' base (fun k => ok k ∨ W.heap.size ≤ k) (.slice A3 nL c3) (xs ++ ⟨false, ks, is, (kn : Int)⟩ :: rs)) ∧ Aside0 (Below base w0 w') ∧ Aside0 (Kept W w' ok))
   case atStart => exact ⟨0, A9, c9, nL, [], [], [], rfl, rfl, ⟨by omega, by omega⟩, HNL, ⟨by simp [sepL], by simp [noL], by simp [flatL]⟩, HO9, HB9, HK9⟩
   case round =>
    clear HNL HO9 HB9 HK9
    obtain ⟨j, A3, c3, nL, ks, is, rs, rfl, rfl, HI, HNL, HQ, HS3, HB3, HK3⟩ := hrel
    by_cases cj : j < t.f2.length
    case neg =>
     have cjb : decide (j < t.f2.length) = false := zK cj
     have hj : j = t.f2.length := by have := HI.out; omega
     have HFL := zA (show xs ++ flatD (d + 1) t (a : Int) = xs ++ ⟨false, ks, is, (kn : Int)⟩ :: rs by rw [HFD.out, HQ.out.1, HQ.out.2.1, HQ.out.2.2, hj, List.take_length])
     clear hj cj
     go_wp2_with fail
     go_ret
     rw [HFL.out]
     exact ⟨⟨_, rfl, HS3.out⟩, HB3.out, HK3.out⟩
    case pos =>
     have cjb : decide (j < t.f2.length) = true := zJ cj
     have CJ := zA cj
     obtain ⟨mm, rfl⟩ : ∃ mm, gk = mm + 1 := ⟨gk - 1, by have := HI.out; omega⟩
     have HFR := zA (Kd.F_kept (S := ok) HFW.out HK3.out (fun k hk h => HDIS.out k hk (Or.inl h)))
     obtain ⟨ad, v, rfl, hx, hK, _⟩ := at_N HFR.out j cj
     rw [rd56_at _ _ cj] at hK
     obtain ⟨kid, hkid⟩ : ∃ kid, kid = t.f2[j]'cj := ⟨_, rfl⟩
     rw [← hkid] at hK
     have HKid := zA (show kid = t.f2[j]'CJ.out from hkid)
     have HKG := zA (show goodD d false kid by rw [hkid]; exact HG.out.2.2.2.2 _ (List.getElem_mem cj))
     obtain ⟨tp, kb2, rfl, _, _⟩ := node_keys hK
     have HKK := zA hK
     unfold ifP at hx
     have p5 : (0 ≤ (j : Int)) = True := eq_true (by omega)
     have q5 : ((j : Int) < (t.f2.length : Int)) = True := eq_true (by omega)
     have q6 : (j < t.f2.length) = True := eq_true cj
     have p7 : (0 ≤ (a : Int)) = True := eq_true (by omega)
     have q7 : ((a : Int) < (nL : Int)) = True := eq_true (by have := HNL.out; omega)
     have q8 : (a < nL) = True := eq_true (by have := HNL.out; omega)
     have HW1 := zA (w64s j (by have := HG.out.2.2.2.1; omega))
     obtain ⟨g, cap, eg, hgb, hgl, _⟩ := Kd.S_form HS3.out (by simp; omega)
     injection eg with ea eb ec
     clear eb
     subst ea
     subst ec
     have HGB := zA hgb
     clear hK cj hkid hgb hgl
     by_cases c0 : 0 < j
     case neg =>
      have c0b : decide (0 < j) = false := zK c0
      have c0c : decide ((0 : Int) < (j : Int)) = false := zK (by omega)
      have HKS := zA (show ks = sepL d (t.f2.take (j + 1)) by
       have hj0 : j = 0 := by omega
       rw [HQ.out.1, hj0]
       simp only [sepL, List.take_zero, List.drop_nil, List.map_nil]
       rw [List.drop_of_length_le (by rw [zW]; omega)]
       rfl)
      clear c0
      have hSd := HS3.out
      obtain ⟨oki, w1_, w2_, hel⟩ := El_open hSd (Int.natCast_nonneg a) (by have := HNL.out; omega)
      rw [show rd_T90 (xs ++ ⟨false, ks, is, (kn : Int)⟩ :: rs) (a : Int) = ⟨false, ks, is, (kn : Int)⟩ by rw [HAX.out]; exact rd90_mid _ _ _] at hel
      obtain ⟨AE1, ce1, rfl⟩ := Kd.R_slice hel.g1
      obtain ⟨AE2, ce2, rfl⟩ := Kd.R_slice hel.g2
      obtain ⟨z0, z1, z2, z3, fz⟩ := hel.cells (Int.natCast_nonneg a) (by have := HNL.out; omega)
      have f2 := fz (a * 4 + 2)
      simp only [Int.toNat_natCast] at z2
      have HEL := zA hel
      have HBZ := zA (yI HZ.out.1 (HK3.out.1))
      obtain ⟨n2, hn2⟩ : ∃ n2, n2 = is.length := ⟨_, rfl⟩
      rw [← hn2] at z2 HEL
      have HN2 := zA hn2
      clear hSd hel z0 z1 z3 fz hn2
      go_wp2_with ((with_reducible refine gate_builtin (b := .append) (xs := #[.tmp 73, .tmp 76]) rfl ?_); at_builtin; go_loud (refine Kd.R_append (Kd.int .i64) (w0 := w0) (W := wr) base rfl (.tmp 73) (.tmp 76) 88 2 (.int .i64 0) 8 rfl Try.underlying88 info2 rfl (by decide) (by omega) (.slice AE2 n2 ce2) is ((nL : Nat) : Int) [.int .i64 ((nL : Nat) : Int)] (fun k => oki k ∨ (wr).heap.size ≤ k) (fun _ => False) rfl rfl ?aP ?aK ?aF ?aO ?aB ?aS ?aL ?_; (case aP => rfl); (case aK => exact fun k hk => hk.elim); (case aF => exact fun k hk => Or.inr hk); (case aO => exact yA (HEL.out.g2) (fun k hk => Or.inl hk)); (case aB => exact HB3.out); (case aS => exact HBZ.out); (case aL => have h1 := HQ.out.2.1; rw [h1, noL_length, zW]; have := HG.out.2.2.2.1; omega); intro v77 w5 ho hbb hg hat; obtain ⟨AE3, ce3, e3⟩ := Kd.R_slice ho; generalize (is ++ [((nL : Nat) : Int)]).length = n3 at e3; subst e3; have h5_ := El.after2 HEL.out (by have := HNL.out; omega) (fun k hk => Or.inr (yI HK3.out.1 hk)) ho hg; clear z2 f2; have z2 := h5_.1; have f2 := h5_.2.1; have HS5 := zA h5_.2.2.1; have HK5 := zA h5_.2.2.2; have HB5 := zA (show Below base w0 (w5.setCell ⟨g, a * 4 + 2, none⟩ (.slice AE3 n3 ce3)) from hbb.setCell (show base ≤ g from HGB.out) _); clear ho hbb hg hat h5_))
      rw [set_midN xs _ _ rs HAX.out] at HS5
      obtain ⟨LL, hLL⟩ : ∃ LL, LL = xs ++ (⟨false, ks, is ++ [((nL : Nat) : Int)], (kn : Int)⟩ : S90) :: rs := ⟨_, rfl⟩
      rw [← hLL] at HS5
      have hLn : nL = LL.length := by rw [hLL, HNL.out, HAX.out]; simp; omega
      have HLL := zA hLL
      have HLN := zA hLn
      have HK15 := zA (HK3.out.then_ HK5.out (fun k hk => hk))
      have HKD := zA (Kd.FK_step HKK.out (fun k hk hlt => HK5.out.2 k hlt (HDIS.out k hk)))
      have HSZ5 := zA HK15.out.1
      clear hLL
      generalize w5.setCell ⟨g, a * 4 + 2, none⟩ (.slice AE3 n3 ce3) = W15 at *
      rw [hLn] at HS5
      rw [hLn]
      clear hLn z2 f2
      refine (IH.out false kid (ifP tp kb2) W15 (some ⟨g, 0, none⟩) c3 LL (fun k => ok k ∨ W.heap.size ≤ k) _ HKG.out (by have := HD.out; omega) HS5.out HKD.out HDIS.out HB5.out (yI HZ.out.1 HSZ5.out) (by
       have h1 := HZ.out.2
       have h2 : rs.length ≤ 4 ^ (d + 2) := by rw [HQ.out.2.2]; exact flatL_le _ (by rw [zW]; have := HG.out.2.2.2.1; omega) (fun k hk => HG.out.2.2.2.2 k (List.mem_of_mem_take hk))
       have h3 := pow4 (d + 2) 14 (by have := HD.out; omega)
       have h4 := HLN.out
       have h5 := HNL.out
       have h6 := HAX.out
       rw [← h4, h5]
       omega)).mono ?_
      rintro e W16 ⟨⟨v16, rfl, hS⟩, hb, hk⟩
      have hX : ((LL.length : Nat) : Int) = (a : Int) + 1 + (rs.length : Nat) := by have := HLN.out; have := HNL.out; omega
      rw [hX] at hS
      obtain ⟨X, hXX⟩ : ∃ X, X = flatD d kid ((a : Int) + 1 + (rs.length : Nat)) := ⟨_, rfl⟩
      rw [← hXX] at hS
      have HRS := zA (show rs ++ X = flatL (flatD d) (t.f2.take (j + 1)) ((a : Int) + 1) by rw [flatL_take CJ.out, ← HQ.out.2.2, hXX, HKid.out])
      have HIS := zA (show is ++ [((nL : Nat) : Int)] = noL (flatD d) (t.f2.take (j + 1)) ((a : Int) + 1) by
       rw [noL_take CJ.out, ← HQ.out.2.2, ← HQ.out.2.1]
       have := HNL.out
       congr 2
       omega)
      obtain ⟨A16, c16, e16⟩ := Kd.S_slice hS
      subst e16
      obtain ⟨nM, hnM⟩ : ∃ nM, nM = (LL ++ X).length := ⟨_, rfl⟩
      rw [← hnM] at hS
      rw [← hnM]
      have HNM := zA (show nM = a + 1 + (rs ++ X).length by rw [hnM, List.length_append, List.length_append, ← HLN.out, HNL.out]; omega)
      have HS16 := zA (show Kd.S k90 90 W16 base (fun k => ok k ∨ W.heap.size ≤ k) (.slice A16 nM c16) (xs ++ ⟨false, ks, is ++ [((nL : Nat) : Int)], (kn : Int)⟩ :: (rs ++ X)) by
       have h2 : LL ++ X = xs ++ ⟨false, ks, is ++ [((nL : Nat) : Int)], (kn : Int)⟩ :: (rs ++ X) := by rw [HLL.out, List.append_assoc, List.cons_append]
       rw [← h2]
       exact yB hS (fun k hk => hk.elim id (fun h => Or.inr (yI HSZ5.out h))))
      have HB16 := zA hb
      have HK16 := zA (HK15.out.then_ hk (fun k hk => hk))
      clear hS hb hk hX hXX hnM
      go_wp2_with fail
      go_roundg mm
      case measure => omega
      case rel => exact ⟨j + 1, A16, c16, nM, ks, is ++ [((nL : Nat) : Int)], rs ++ X, by first | (rw [HW1.out]; done) | (simp; done), rfl, ⟨by have := CJ.out; omega, by have := HI.out; omega⟩, HNM, ⟨HKS.out, HIS.out, HRS.out⟩, HS16, HB16, HK16⟩
     case pos =>
      have c0b : decide (0 < j) = true := zJ c0
      have c0c : decide ((0 : Int) < (j : Int)) = true := zJ (by omega)
      obtain ⟨hd_, hhd⟩ : ∃ hd_, hd_ = headK d kid := ⟨_, rfl⟩
      have HKS := zA (show ks ++ [hd_] = sepL d (t.f2.take (j + 1)) by rw [sepL_take CJ.out c0, ← HQ.out.1, hhd, HKid.out])
      obtain ⟨fl, hm, hcl⟩ := node_least (FK_dr HKK.out) HKG.out
      rw [← hhd] at hcl
      have HM := zA hm
      have HCL := zA hcl
      obtain ⟨okj, w1_, w2_, hel⟩ := El_open (Kd.S_drew HS3.out) (Int.natCast_nonneg a) (by have := HNL.out; omega)
      rw [show rd_T90 (xs ++ ⟨false, ks, is, (kn : Int)⟩ :: rs) (a : Int) = ⟨false, ks, is, (kn : Int)⟩ by rw [HAX.out]; exact rd90_mid _ _ _] at hel
      obtain ⟨AF1, cf1, rfl⟩ := Kd.R_slice hel.g1
      obtain ⟨z0, z1, z2, z3, fz⟩ := hel.cells (Int.natCast_nonneg a) (by have := HNL.out; omega)
      have f1 := fz (a * 4 + 1)
      simp only [Int.toNat_natCast] at z1
      replace z1 : wr.cell? ⟨g, a * 4 + 1, none⟩ = some (.slice AF1 ks.length cf1) := z1
      replace f1 : wr.frozen? ⟨g, a * 4 + 1, none⟩ = false := f1
      have HEJ := zA hel
      have HBJ := zA (show base ≤ wr.drew.heap.size from yI HZ.out.1 (HK3.out.1))
      obtain ⟨n1, hn1⟩ : ∃ n1, n1 = ks.length := ⟨_, rfl⟩
      rw [← hn1] at z1 HEJ
      have HN1 := zA hn1
      have z1b : (wr.drew.alloc (.cells #[.string hd_] 9)).cell? ⟨g, a * 4 + 1, none⟩ = some (.slice AF1 n1 cf1) := ((below_alloc (zZ wr.drew.heap.size wr.drew) _).cell (block_lt_of_cell z1)).trans z1
      clear hel z0 z2 z3 fz hn1 hm hcl hhd c0
      have Z1 := zA z1
      clear z1 f1
      go_upto_region 13 with (fail)
      refine start_ (n := 14) (S := fun w' => w'.cell? ⟨g, a * 4 + 1, none⟩ = some (.slice AF1 n1 cf1)) (ds := [13]) #[false, false, false, false, false, false, false, false, false, false, false, false, false, false] (by kernel_rfl) rfl rfl Z1.out (fun hHeld => ?_); refine with_tabW lay.gtab13 lay.gbits13 (fun HT_ HW_ => ?_)
      replace Z1 := zA (show wr.drew.cell? ⟨g, a * 4 + 1, none⟩ = some (.slice AF1 n1 cf1) from Z1.out)
      refine pure_ (i := 0) (N := some 54) (v := ?_) (a' := ?_) #[true, false, false, false, false, false, false, false, false, false, false, false, false, false] rfl rfl (yM HT_.out (by kernel_rfl)) (fun _ _ _ h => h) (Or.inl ⟨by rfl, ?_⟩) ?_ ?_
      rotate_left
      ·intro w'
       go_simp
       with_reducible rfl
      rotate_left
      ·simp only [Act.put, zN, zO, zP, i64_w, i32_w]
       rfl
      refine pure_ (i := 1) (N := some 55) (v := ?_) (a' := ?_) #[true, true, false, false, false, false, false, false, false, false, false, false, false, false] rfl rfl (yM HT_.out (by kernel_rfl)) (fun _ _ _ h => h) (Or.inl ⟨by rfl, ?_⟩) ?_ ?_
      rotate_left
      ·intro w'
       go_simp
       with_reducible rfl
      rotate_left
      ·simp only [Act.put, zN, zO, zP, i64_w, i32_w]
       rfl
      refine pure_ (i := 2) (N := some 56) (v := ?_) (a' := ?_) #[true, true, true, false, false, false, false, false, false, false, false, false, false, false] rfl rfl (yM HT_.out (by kernel_rfl)) (fun _ _ _ h => h) (Or.inl ⟨by rfl, ?_⟩) ?_ ?_
      rotate_left
      ·intro w'
       go_simp
       with_reducible rfl
      rotate_left
      ·simp only [Act.put, zN, zO, zP, i64_w, i32_w]
       rfl
      refine pure_ (i := 3) (N := some 57) (v := ?_) (a' := ?_) #[true, true, true, true, false, false, false, false, false, false, false, false, false, false] rfl rfl (yM HT_.out (by kernel_rfl)) (fun _ _ _ h => h) (Or.inl ⟨by rfl, ?_⟩) ?_ ?_
      rotate_left
      ·intro w'
       go_simp
       with_reducible rfl
      rotate_left
      ·simp only [Act.put, zN, zO, zP, i64_w, i32_w]
       rfl
      refine pure_ (i := 4) (N := some 58) (v := ?_) (a' := ?_) #[true, true, true, true, true, false, false, false, false, false, false, false, false, false] rfl rfl (yM HT_.out (by kernel_rfl)) (fun _ _ _ h => h) (Or.inl ⟨by rfl, ?_⟩) ?_ ?_
      rotate_left
      ·intro w'
       go_simp
       with_reducible rfl
      rotate_left
      ·simp only [Act.put, zN, zO, zP, i64_w, i32_w]
       rfl
      refine pure_ (i := 5) (N := some 59) (v := ?_) (a' := ?_) #[true, true, true, true, true, true, false, false, false, false, false, false, false, false] rfl rfl (yM HT_.out (by kernel_rfl)) (fun _ _ _ h => h) (Or.inl ⟨by rfl, ?_⟩) ?_ ?_
      rotate_left
      ·intro w'
       go_simp
       with_reducible rfl
      rotate_left
      ·simp only [Act.put, zN, zO, zP, i64_w, i32_w]
       rfl
      refine take_ (i := 6) (N := some 60) (v := ?_) (a' := ?_) #[true, true, true, true, true, true, true, false, false, false, false, false, false, false] rfl rfl (yL HT_.out HW_.out (by kernel_rfl)) (fun _ _ _ h => h) (Or.inl ⟨by rfl, ?_⟩) hHeld ?_ ?_
      rotate_left
      ·rintro w' s0
       go_simp
       with_reducible rfl
      rotate_left
      ·simp only [Act.put, zN, zO, zP, i64_w, i32_w]
       rfl
      refine pure_ (i := 7) (N := some 61) (v := ?_) (a' := ?_) #[true, true, true, true, true, true, true, true, false, false, false, false, false, false] rfl rfl (yM HT_.out (by kernel_rfl)) (fun _ _ _ h => h) (Or.inl ⟨by rfl, ?_⟩) ?_ ?_
      rotate_left
      ·intro w'
       go_simp
       with_reducible rfl
      rotate_left
      ·simp only [Act.put, zN, zO, zP, i64_w, i32_w]
       rfl
      refine one_ (i := 8) (N := some 62) #[true, true, true, true, true, true, true, true, true, false, false, false, false, false] rfl rfl (yN HT_.out (by kernel_rfl)) (by decide) (fun K hK => ?_)
      refine call_ fl #[.pointer (some ⟨kb2, 0, none⟩)] (by rfl) rfl (run_invoke rfl rfl (HM.out _)) ?_
      refine HCL.out.mono ?_
      rintro e We ⟨rfl, rfl⟩
      refine ⟨_, rfl, ?_⟩
      refine hK.out _ _ Z1.out (fun hHeld => ?_)
      clear hK K
      refine norm_ (a' := ?_) ?_ ?_
      rotate_left
      ·show Act.put _ (some 62) _ = _
       simp only [Act.put, zN, zO, zP, i64_w, i32_w]
       rfl
      refine one_ (i := 9) (N := some 63) #[true, true, true, true, true, true, true, true, true, true, false, false, false, false] rfl rfl (yN HT_.out (by kernel_rfl)) (by decide) (fun K hK => ?_)
      refine value_ (w1 := ?_) (v := ?_) (by rfl) rfl ?_ ?_
      rotate_left 2
      ·go_simp
       constructor
       ·rfl
       ·rfl
      have hba : Below wr.drew.heap.size wr.drew (wr.drew.alloc (.cells #[.string hd_] 9)) := below_alloc (zZ _ _) _
      refine hK.out _ _ (cell_stay hba Z1.out) (fun hHeld => ?_)
      clear hba
      clear hK K
      refine norm_ (a' := ?_) ?_ ?_
      rotate_left
      ·show Act.put _ (some 63) _ = _
       simp only [Act.put, zN, zO, zP, i64_w, i32_w]
       rfl
      refine one_ (i := 10) (N := some 64) #[true, true, true, true, true, true, true, true, true, true, true, false, false, false] rfl rfl (yN HT_.out (by kernel_rfl)) (by decide) (fun K hK => ?_)
      refine Kd.R_append_step Kd.string (w0 := w0) (W := wr.drew) base (by rfl) (.tmp 60) (.tmp 63) 38 9 (.string ⟨#[]⟩) 16 rfl Try.underlying38 info9 rfl (by decide) (by omega) (.slice AF1 n1 cf1) ks hd_ [.string hd_] (fun k => okj k ∨ wr.drew.heap.size ≤ k) (fun _ => False) rfl rfl ?aP ?aK ?aF ?aO ?aB ?aS ?aL ?_
      case aP => rfl
      case aK => exact fun k hk => hk.elim
      case aF => exact fun k hk => Or.inr hk
      case aO => exact yA (HEJ.out.g1) (fun k hk => Or.inl hk)
      case aB => exact below_drew HB3.out
      case aS => exact HBJ.out
      case aL =>
       have h1 := HQ.out.1
       rw [h1]
       simp only [sepL, List.length_map, zX, zW]
       have := HG.out.2.2.2.1
       omega
      intro v64 w3 ho hbb hg hat
      obtain ⟨AF3, cf3, e3⟩ := Kd.R_slice ho
      generalize (ks ++ [hd_]).length = n3 at e3
      subst e3
      have h5_ := El.after1 HEJ.out (by have := HNL.out; omega) (fun k hk => Or.inr (yI HK3.out.1 hk)) ho hg
      have Z3 := zA h5_.1
      have F3 := zA h5_.2.1
      have HS4 := zA h5_.2.2.1
      have HK4 := zA h5_.2.2.2
      have HB4 := zA (show Below base w0 (w3.setCell ⟨g, a * 4 + 1, none⟩ (.slice AF3 n3 cf3)) from hbb.setCell (show base ≤ g from HGB.out) _)
      clear ho hbb hg hat h5_
      refine hK.out _ _ Z3.out (fun hHeld => ?_)
      clear hK K
      refine norm_ (a' := ?_) ?_ ?_
      rotate_left
      ·show Act.put _ (some 64) _ = _
       simp only [Act.put, zN, zO, zP, i64_w, i32_w]
       rfl
      refine pure_ (i := 11) (N := some 65) (v := ?_) (a' := ?_) #[true, true, true, true, true, true, true, true, true, true, true, true, false, false] rfl rfl (yM HT_.out (by kernel_rfl)) (fun _ _ _ h => h) (Or.inl ⟨by rfl, ?_⟩) ?_ ?_
      rotate_left
      ·intro w'
       go_simp
       with_reducible rfl
      rotate_left
      ·simp only [Act.put, zN, zO, zP, i64_w, i32_w]
       rfl
      refine pure_ (i := 12) (N := some 66) (v := ?_) (a' := ?_) #[true, true, true, true, true, true, true, true, true, true, true, true, true, false] rfl rfl (yM HT_.out (by kernel_rfl)) (fun _ _ _ h => h) (Or.inl ⟨by rfl, ?_⟩) ?_ ?_
      rotate_left
      ·intro w'
       go_simp
       with_reducible rfl
      rotate_left
      ·simp only [Act.put, zN, zO, zP, i64_w, i32_w]
       rfl
      refine last_ (i := 13) (N := none) #[true, true, true, true, true, true, true, true, true, true, true, true, true, true] rfl rfl (yN HT_.out (by kernel_rfl)) (by decide) (fun K hK => ?_)
      have z1 := Z3.out
      have f1 := F3.out
      refine skip_ (w1 := ?_) (by rfl) rfl ?_ ?_
      rotate_left
      ·go_simp
       rfl
      refine hK.out _ _ ?_
      clear hK K
      refine done_ (done_of HT_.out (by kernel_rfl)) ?_
      ·rw [set_midN xs _ _ rs HAX.out] at HS4
       have HK14 := zA ((Kept.drew HK3.out).then_ HK4.out (fun k hk => hk))
       have HKK4 := zA (Kd.FK_step (FK_dr HKK.out) (fun k hk hlt => HK4.out.2 k hlt (HDIS.out k hk)))
       generalize w3.setCell ⟨g, a * 4 + 1, none⟩ (.slice AF3 n3 cf3) = W14 at *
       have hSd := HS4.out
       obtain ⟨oki, w1_, w2_, hel⟩ := El_open hSd (Int.natCast_nonneg a) (by have := HNL.out; omega)
       rw [show rd_T90 (xs ++ ⟨false, (ks ++ [hd_]), is, (kn : Int)⟩ :: rs) (a : Int) = ⟨false, (ks ++ [hd_]), is, (kn : Int)⟩ by rw [HAX.out]; exact rd90_mid _ _ _] at hel
       obtain ⟨AE1, ce1, rfl⟩ := Kd.R_slice hel.g1
       obtain ⟨AE2, ce2, rfl⟩ := Kd.R_slice hel.g2
       obtain ⟨z0, z1, z2, z3, fz⟩ := hel.cells (Int.natCast_nonneg a) (by have := HNL.out; omega)
       have f2 := fz (a * 4 + 2)
       simp only [Int.toNat_natCast] at z2
       have HEL := zA hel
       have HBZ := zA (yI HZ.out.1 (HK14.out.1))
       obtain ⟨n2, hn2⟩ : ∃ n2, n2 = is.length := ⟨_, rfl⟩
       rw [← hn2] at z2 HEL
       have HN2 := zA hn2
       clear hSd hel z0 z1 z3 fz hn2
       go_wp2_with ((with_reducible refine gate_builtin (b := .append) (xs := #[.tmp 73, .tmp 76]) rfl ?_); at_builtin; go_loud (refine Kd.R_append (Kd.int .i64) (w0 := w0) (W := W14) base rfl (.tmp 73) (.tmp 76) 88 2 (.int .i64 0) 8 rfl Try.underlying88 info2 rfl (by decide) (by omega) (.slice AE2 n2 ce2) is ((nL : Nat) : Int) [.int .i64 ((nL : Nat) : Int)] (fun k => oki k ∨ (W14).heap.size ≤ k) (fun _ => False) rfl rfl ?aP ?aK ?aF ?aO ?aB ?aS ?aL ?_; (case aP => rfl); (case aK => exact fun k hk => hk.elim); (case aF => exact fun k hk => Or.inr hk); (case aO => exact yA (HEL.out.g2) (fun k hk => Or.inl hk)); (case aB => exact HB4.out); (case aS => exact HBZ.out); (case aL => have h1 := HQ.out.2.1; rw [h1, noL_length, zW]; have := HG.out.2.2.2.1; omega); intro v77 w5 ho hbb hg hat; obtain ⟨AE3, ce3, e3⟩ := Kd.R_slice ho; generalize (is ++ [((nL : Nat) : Int)]).length = n3 at e3; subst e3; have h5_ := El.after2 HEL.out (by have := HNL.out; omega) (fun k hk => Or.inr (yI HK14.out.1 hk)) ho hg; clear z2 f2; have z2 := h5_.1; have f2 := h5_.2.1; have HS5 := zA h5_.2.2.1; have HK5 := zA h5_.2.2.2; have HB5 := zA (show Below base w0 (w5.setCell ⟨g, a * 4 + 2, none⟩ (.slice AE3 n3 ce3)) from hbb.setCell (show base ≤ g from HGB.out) _); clear ho hbb hg hat h5_))
       rw [set_midN xs _ _ rs HAX.out] at HS5
       obtain ⟨LL, hLL⟩ : ∃ LL, LL = xs ++ (⟨false, (ks ++ [hd_]), is ++ [((nL : Nat) : Int)], (kn : Int)⟩ : S90) :: rs := ⟨_, rfl⟩
       rw [← hLL] at HS5
       have hLn : nL = LL.length := by rw [hLL, HNL.out, HAX.out]; simp; omega
       have HLL := zA hLL
       have HLN := zA hLn
       have HK15 := zA (HK14.out.then_ HK5.out (fun k hk => hk))
       have HKD := zA (Kd.FK_step HKK4.out (fun k hk hlt => HK5.out.2 k hlt (HDIS.out k hk)))
       have HSZ5 := zA HK15.out.1
       clear hLL
       generalize w5.setCell ⟨g, a * 4 + 2, none⟩ (.slice AE3 n3 ce3) = W15 at *
       rw [hLn] at HS5
       rw [hLn]
       clear hLn z2 f2
       refine (IH.out false kid (ifP tp kb2) W15 (some ⟨g, 0, none⟩) c3 LL (fun k => ok k ∨ W.heap.size ≤ k) _ HKG.out (by have := HD.out; omega) HS5.out HKD.out HDIS.out HB5.out (yI HZ.out.1 HSZ5.out) (by
        have h1 := HZ.out.2
        have h2 : rs.length ≤ 4 ^ (d + 2) := by rw [HQ.out.2.2]; exact flatL_le _ (by rw [zW]; have := HG.out.2.2.2.1; omega) (fun k hk => HG.out.2.2.2.2 k (List.mem_of_mem_take hk))
        have h3 := pow4 (d + 2) 14 (by have := HD.out; omega)
        have h4 := HLN.out
        have h5 := HNL.out
        have h6 := HAX.out
        rw [← h4, h5]
        omega)).mono ?_
       rintro e W16 ⟨⟨v16, rfl, hS⟩, hb, hk⟩
       have hX : ((LL.length : Nat) : Int) = (a : Int) + 1 + (rs.length : Nat) := by have := HLN.out; have := HNL.out; omega
       rw [hX] at hS
       obtain ⟨X, hXX⟩ : ∃ X, X = flatD d kid ((a : Int) + 1 + (rs.length : Nat)) := ⟨_, rfl⟩
       rw [← hXX] at hS
       have HRS := zA (show rs ++ X = flatL (flatD d) (t.f2.take (j + 1)) ((a : Int) + 1) by rw [flatL_take CJ.out, ← HQ.out.2.2, hXX, HKid.out])
       have HIS := zA (show is ++ [((nL : Nat) : Int)] = noL (flatD d) (t.f2.take (j + 1)) ((a : Int) + 1) by
        rw [noL_take CJ.out, ← HQ.out.2.2, ← HQ.out.2.1]
        have := HNL.out
        congr 2
        omega)
       obtain ⟨A16, c16, e16⟩ := Kd.S_slice hS
       subst e16
       obtain ⟨nM, hnM⟩ : ∃ nM, nM = (LL ++ X).length := ⟨_, rfl⟩
       rw [← hnM] at hS
       rw [← hnM]
       have HNM := zA (show nM = a + 1 + (rs ++ X).length by rw [hnM, List.length_append, List.length_append, ← HLN.out, HNL.out]; omega)
       have HS16 := zA (show Kd.S k90 90 W16 base (fun k => ok k ∨ W.heap.size ≤ k) (.slice A16 nM c16) (xs ++ ⟨false, (ks ++ [hd_]), is ++ [((nL : Nat) : Int)], (kn : Int)⟩ :: (rs ++ X)) by
        have h2 : LL ++ X = xs ++ ⟨false, (ks ++ [hd_]), is ++ [((nL : Nat) : Int)], (kn : Int)⟩ :: (rs ++ X) := by rw [HLL.out, List.append_assoc, List.cons_append]
        rw [← h2]
        exact yB hS (fun k hk => hk.elim id (fun h => Or.inr (yI HSZ5.out h))))
       have HB16 := zA hb
       have HK16 := zA (HK15.out.then_ hk (fun k hk => hk))
       clear hS hb hk hX hXX hnM
       go_wp2_with fail
       go_roundg mm
       case measure => omega
       case rel => exact ⟨j + 1, A16, c16, nM, (ks ++ [hd_]), is ++ [((nL : Nat) : Int)], rs ++ X, by first | (rw [HW1.out]; done) | (simp; done), rfl, ⟨by have := CJ.out; omega, by have := HI.out; omega⟩, HNM, ⟨HKS.out, HIS.out, HRS.out⟩, HS16, HB16, HK16⟩

/-! ### zzx_repl: a text by hand -/
-- import Derived.Shelf.Spec.SlicesInsertGrow
-- import Derived.BigQuiet
-- import Derived.WalkLawsBesides
-- slices.Replace at nodes: one element replaced by one or two
def ReplEnd (n0 : Nat) (w0 W : World) (g : Nat) (l : List Value) (e : Ending) (w' : World) : Prop :=
 ∃ g' c' t', e = .returned (.slice (some ⟨g', 0, none⟩) l.length c') ∧ RB w' 67 n0 g' c' l t' ∧ Below n0 w0 w' ∧ (g' = g ∨ W.heap.size ≤ g') ∧ ∀ k, k < W.heap.size → k ≠ g → w'.heap[k]? = W.heap[k]?
theorem node_sz : (Try.prog.info? 67).map (·.size) = some 1 := by kernel_rfl
set_option maxHeartbeats 4000000 in
set_option maxRecDepth 100000 in
theorem rep_shift (n0 : Nat) (w0 W : World) (xs : List Value) (g c vb vc i n : Nat) (tail tv : List Value) (y1 y2 : Value) (hn : n = xs.length) (h : RB W 67 n0 g c xs tail) (hv : RB W 67 0 vb vc [y1, y2] tv) (hi : i + 1 < n) (hroom : n + 1 ≤ c) (hne : vb ≠ g) (hB : Below n0 w0 W) (hnB : n ≤ 4294967296) :
  Calls Try.prog 78 #[.slice (some ⟨g, 0, none⟩) n c, .int .i64 (i : Int), .int .i64 ((i + 1 : Nat) : Int), .slice (some ⟨vb, 0, none⟩) 2 vc] W fun e w' => ReplEnd n0 w0 W g (xs.take i ++ [y1, y2] ++ xs.drop (i + 1)) e w' := by
 have hc63 : c ≤ 9223372036854775807 := by have := h.hmax; unfold maxLen at this; omega
 have H := zA (And.intro h (And.intro hv (And.intro hne (And.intro hi hroom))))
 have HN := zA hn
 have HB := zA hB
 have hci : ¬ (c = i) := by omega
 have hci2 : ¬ (c = i + 1) := by omega
 have hin : i ≤ n := by omega
 have hin2 : i ≤ c := by omega
 have hin3 : i + 1 ≤ n := by omega
 have hin4 : i + 1 ≤ c := by omega
 have hin5 : i ≤ i + 1 := by omega
 have p1 : (0 ≤ (i : Int)) = True := eq_true (by omega)
 have p2 : ((i : Int) ≤ (i : Int) + 1) = True := eq_true (by omega)
 have p3 : ((i : Int) + 1 ≤ (c : Int)) = True := eq_true (by omega)
 have p4 : ((i : Int) + 1 ≤ (n : Int)) = True := eq_true (by omega)
 have p5 : (0 ≤ (i : Int) + 1) = True := eq_true (by omega)
 have p6 : ((i : Int) ≤ (c : Int)) = True := eq_true (by omega)
 have p7 : ((i : Int) ≤ (n : Int)) = True := eq_true (by omega)
 have b1 : ((i : Int) == ((i + 1 : Nat) : Int)) = false := by rw [beq_eq_false_iff_ne]; omega
 have b2 : ((i : Int) == (i : Int) + 1) = false := by rw [beq_eq_false_iff_ne]; omega
 have b3 : (((i + 1 : Nat) : Int) == (n : Int)) = false := by rw [beq_eq_false_iff_ne]; omega
 have b4 : ((i : Int) + 1 == (n : Int)) = false := by rw [beq_eq_false_iff_ne]; omega
 have b5 : (i + 1 == n) = false := by rw [beq_eq_false_iff_ne]; omega
 have hnb : n ≤ 4294967296 := hnB
 clear h hv hne hi hroom hn hB hc63 hnB
 go_enter Try.func78, Try.ntmps78
 go_wp2_with fail
 have w1 : IntKind.i64.wrap ((i : Int) + 2) = ((i + 2 : Nat) : Int) := by rw [IntKind.wrap_i64]; omega
 have w2 : IntKind.i64.wrap (((i + 2 : Nat) : Int) + ((n - (i + 1) : Nat) : Int)) = ((n + 1 : Nat) : Int) := by rw [IntKind.wrap_i64]; omega
 go_quiet (fail)
 rw [show (i : Int) + 2 + ((n - (i + 1) : Nat) : Int) = ((n + 1 : Nat) : Int) by have := H.out.2.2.2.1; omega]
 clear w1 w2
 obtain ⟨W1, hW1⟩ : ∃ W1, W1 = W.drewN nq := ⟨_, rfl⟩
 rw [← hW1]
 have h1 : RB W1 67 n0 g c xs tail := by rw [hW1]; exact ⟨H.out.1.blk, H.out.1.bas, H.out.1.hcap, H.out.1.hmax, H.out.1.one⟩
 have v1 : RB W1 67 0 vb vc [y1, y2] tv := by rw [hW1]; exact ⟨H.out.2.1.blk, H.out.2.1.bas, H.out.2.1.hcap, H.out.2.1.hmax, H.out.2.1.one⟩
 have hov : ∀ la ca, (callFunc 97 #[.slice (some ⟨g, i + 2, none⟩) la ca, .slice (some ⟨vb, 0, none⟩) 2 vc]).run Try.prog W1 = .ok (.value (.bool false)) W1 := fun la ca => by
  rw [run_callFunc_extern Try.func97 (by kernel_rfl) (by kernel_rfl) (by kernel_rfl) (e := Extern.SlicesOverlaps.overlaps #[77, 77] #[4]) (by kernel_rfl),
    Lib.run_overlaps_apart W1 77 4 67 Try.underlying77 1 Try.sizeOf67 ⟨g, i + 2, none⟩ ⟨vb, 0, none⟩ la ca 2 vc (Ne.symm H.out.2.2.1) 67 67 c vc (show W1.shape? g = _ by simp [World.shape?, h1.blk, h1.hcap]) (show W1.shape? vb = some (67, vc) by rw [v1.hcap]; simp [World.shape?, v1.blk]; omega) (by have := v1.hcap; simp at this; omega) (zG h1.blk _) (zG h1.blk _)]
  rfl
 have HRB := zA (And.intro h1 v1)
 have HW1 := zA (And.intro (show W1.heap = W.heap by rw [hW1]; rfl) (show Below n0 w0 W1 by rw [hW1]; exact zB HB.out nq))
 have r1 : n + 1 ≤ c := H.out.2.2.2.2
 have r2 : ((n : Int) + 1 ≤ (c : Int)) = True := eq_true (by omega)
 have r3 : decide ((c : Int) < (n : Int) + 1) = false := zK (by omega)
 have r4 : decide (c < n + 1) = false := zK (by omega)
 have r5 : (0 ≤ (n : Int) + 1) = True := eq_true (by omega)
 have r6 : (i + 2 ≤ n + 1) = True := eq_true (by have := H.out.2.2.2.1; omega)
 have r7 : ((i : Int) + 2 ≤ (n : Int) + 1) = True := eq_true (by have := H.out.2.2.2.1; omega)
 have r8 : (0 ≤ (i : Int) + 2) = True := eq_true (by omega)
 have r9 : ¬ (c = i + 2) := by have := H.out.2.2.2.1; omega
 have ra : decide ((i : Int) + 2 ≤ (i : Int) + 1) = false := zK (by omega)
 have rb : decide (i + 2 ≤ i + 1) = false := zK (by omega)
 clear h1 v1 hW1
 have hxl : (xs.drop (i + 1)).length = n - (i + 1) := by rw [zX, ← HN.out]
 have hcp1 : ∀ ty dc sc, (Builtin.copy_ #[77, 77] ty #[.slice (some ⟨g, i + 2, none⟩) (n - (i + 1)) dc, .slice (some ⟨g, i + 1, none⟩) (n - (i + 1)) sc]).run Try.prog W1.drew = .ok (goInt (xs.drop (i + 1)).length) (W1.drew.setCells g (i + 2) (xs.drop (i + 1))) := fun ty dc sc =>
  run_copy_cells W1.drew _ _ ty 67 g (i + 2) (n - (i + 1)) dc ⟨g, i + 1, none⟩ (n - (i + 1)) sc (xs.drop (i + 1)) Try.underlying77 node_sz (by rw [hxl]; simp only [Nat.min_def]; split <;> omega)
    (fun j v hj => by
      rw [Addr.add_lit]
      have := HRB.out.1.cells (i + 1 + j) v (by rwa [List.getElem?_drop] at hj)
      rwa [Nat.zero_add] at this)
    (fun j hj => by have := HRB.out.1.isS (i + 2 + j) (by rw [hxl] at hj; omega); rwa [Nat.zero_add] at this) (fun j hj => HRB.out.1.frozen _) (fun v hv => HRB.out.1.one v (List.mem_of_mem_drop hv))
 have hw1 : IntKind.i64.wrap ((i : Int) + 2) = (i : Int) + 2 := by rw [IntKind.wrap_i64]; have := H.out.2.2.2.1; omega
 have htn : ((i : Int) + 2).toNat = i + 2 := by omega
 have htn1 : ((i : Int) + 1).toNat = i + 1 := by omega
 have HX := zA hxl
 clear hxl
 go_wp2_with (simp only [hov])
 go_region_law (refine Go.Proofs.step_copy_runI rfl _ _ 77 77 rfl _ _ (by simp [Act.eval, Act.put]) (by simp [Act.eval, Act.put]) (hcp1 _ _ _) ?_)
 have HIN := zA (show i + 1 < xs.length from by rw [← HN.out]; exact H.out.2.2.2.1)
 have hcap0 := HRB.out.1.hcap
 rw [← HN.out] at hcap0
 obtain ⟨t0, tail', ht⟩ : ∃ t0 tail', tail = t0 :: tail' := by
  cases tail with
  | nil => simp at hcap0; omega
  | cons t0 tail' => exact ⟨t0, tail', rfl⟩
 rw [ht, List.length_cons] at hcap0
 have h2 : RB (W1.drew.setCells g (i + 2) (xs.drop (i + 1))) 67 n0 g c (xs.take (i + 2) ++ xs.drop (i + 1)) tail' := by
  have hb := HRB.out.1.blk
  have e : xs ++ tail = xs.take (i + 2) ++ (xs.drop (i + 2) ++ [t0]) ++ tail' := by
    rw [ht, ← List.append_assoc, List.take_append_drop]
    simp
  rw [e] at hb
  have h3 := heap_setCells_at (t := 67) (xs.drop (i + 1)) W1.drew (xs.take (i + 2)) (xs.drop (i + 2) ++ [t0]) tail' hb (by have := HIN.out; simp; omega)
  rw [show (xs.take (i + 2)).length = i + 2 by have := HIN.out; rw [zW]; omega] at h3
  exact ⟨h3, HRB.out.1.bas, by have := HIN.out; rw [hcap0, HN.out]; simp; omega, HRB.out.1.hmax, fun u hu => (List.mem_append.1 hu).elim (fun h => HRB.out.1.one u (List.mem_of_mem_take h)) (fun h => HRB.out.1.one u (List.mem_of_mem_drop h))⟩
 have v2 : RB (W1.drew.setCells g (i + 2) (xs.drop (i + 1))) 67 0 vb vc [y1, y2] tv := ⟨(heap_setCells_other H.out.2.2.1 _ _ _).trans HRB.out.2.blk, HRB.out.2.bas, HRB.out.2.hcap, HRB.out.2.hmax, HRB.out.2.one⟩
 have HW2 := zA (And.intro (show ∀ k, k ≠ g → (W1.drew.setCells g (i + 2) (xs.drop (i + 1))).heap[k]? = W.heap[k]? from fun k hk => (heap_setCells_other hk _ _ _).trans (by show W1.heap[k]? = _; rw [HW1.out.1])) (show Below n0 w0 (W1.drew.setCells g (i + 2) (xs.drop (i + 1))) from below_setCells HRB.out.1.bas _ _ _ (below_drew HW1.out.2)))
 have HR2 := zA (And.intro h2 v2)
 have HC0 := zA hcap0
 generalize W1.drew.setCells g (i + 2) (xs.drop (i + 1)) = W2 at *
 have hcp2 : ∀ ty dc, (Builtin.copy_ #[77, 77] ty #[.slice (some ⟨g, i, none⟩) (n + 1 - i) dc, .slice (some ⟨vb, 0, none⟩) 2 vc]).run Try.prog W2 = .ok (goInt [y1, y2].length) (W2.setCells g i [y1, y2]) := fun ty dc =>
  run_copy_cells W2 _ _ ty 67 g i (n + 1 - i) dc ⟨vb, 0, none⟩ 2 vc [y1, y2] Try.underlying77 node_sz (by have := H.out.2.2.2.1; show 2 = Nat.min 2 _; simp only [Nat.min_def]; split <;> omega)
    (fun j v hj => by rw [Addr.add_lit]; exact HR2.out.2.cells j v hj)
    (fun j hj => by have := HR2.out.1.isS (i + j) (by have := H.out.2.2.2.1; simp at hj; omega); rwa [Nat.zero_add] at this) (fun j hj => HR2.out.1.frozen _) HR2.out.2.one
 clear h2 v2 hcap0 ht hcp1
 go_wp2_with (at_builtin; refine Go.Proofs.wpList_copy_runI _ rfl _ _ 77 77 rfl _ _ rfl rfl (hcp2 _ _) ?_)
 have h3 := heap_setCells_at (t := 67) [y1, y2] W2 (xs.take i) ((xs.take (i + 2)).drop i) (xs.drop (i + 1) ++ tail') (by
  have := HR2.out.1.blk
  rw [show xs.take i ++ (xs.take (i + 2)).drop i ++ (xs.drop (i + 1) ++ tail') = xs.take (i + 2) ++ xs.drop (i + 1) ++ tail' by
    rw [show xs.take i = (xs.take (i + 2)).take i by rw [List.take_take]; congr 1; omega, List.take_append_drop, List.append_assoc]]
  exact this) (by have := HIN.out; rw [zX, zW]; show _ = 2; omega)
 rw [show (xs.take i).length = i by have := HIN.out; rw [zW]; omega] at h3
 have HE := zA h3
 clear h3 hcp2
 go_ret
 have hlen : (xs.take i ++ [y1, y2] ++ xs.drop (i + 1)).length = n + 1 := by have := HIN.out; rw [HN.out]; simp; omega
 refine ⟨g, c, tail', by rw [hlen]; rfl, ⟨by rw [HE.out, List.append_assoc _ _ tail'], HR2.out.1.bas, by rw [hlen]; exact HC0.out.trans (by omega), HR2.out.1.hmax, fun u hu => ?_⟩, below_setCells HR2.out.1.bas _ _ _ HW2.out.2, Or.inl rfl, fun k _ hk => (heap_setCells_other hk _ _ _).trans (HW2.out.1 k hk)⟩
 rcases List.mem_append.1 hu with hu | hu
 ·rcases List.mem_append.1 hu with hu | hu
  · exact HRB.out.1.one u (List.mem_of_mem_take hu)
  · exact HR2.out.2.one u hu
 ·exact HRB.out.1.one u (List.mem_of_mem_drop hu)
set_option maxHeartbeats 4000000 in
set_option maxRecDepth 100000 in
theorem rep_one (n0 : Nat) (w0 W : World) (xs : List Value) (g c vb vc i n : Nat) (tail tv : List Value) (y1 : Value) (hn : n = xs.length) (h : RB W 67 n0 g c xs tail) (hv : RB W 67 0 vb vc [y1] tv) (hi : i + 1 < n) (hne : vb ≠ g) (hB : Below n0 w0 W) (hnB : n ≤ 4294967296) :
  Calls Try.prog 78 #[.slice (some ⟨g, 0, none⟩) n c, .int .i64 (i : Int), .int .i64 ((i + 1 : Nat) : Int), .slice (some ⟨vb, 0, none⟩) 1 vc] W fun e w' => ReplEnd n0 w0 W g (xs.take i ++ [y1] ++ xs.drop (i + 1)) e w' := by
 have H := zA (And.intro h (And.intro hv (And.intro hne hi)))
 have HN := zA hn
 have HB := zA hB
 have hcn : n ≤ c := by have := h.hcap; rw [← hn] at this; omega
 have hci : ¬ (c = i) := by omega
 have hci2 : ¬ (c = i + 1) := by omega
 have hin : i ≤ n := by omega
 have hin2 : i ≤ c := by omega
 have hin3 : i + 1 ≤ n := by omega
 have hin4 : i + 1 ≤ c := by omega
 have hin5 : i ≤ i + 1 := by omega
 have p1 : (0 ≤ (i : Int)) = True := eq_true (by omega)
 have p2 : ((i : Int) ≤ (i : Int) + 1) = True := eq_true (by omega)
 have p3 : ((i : Int) + 1 ≤ (c : Int)) = True := eq_true (by omega)
 have p4 : ((i : Int) + 1 ≤ (n : Int)) = True := eq_true (by omega)
 have p5 : (0 ≤ (i : Int) + 1) = True := eq_true (by omega)
 have p6 : ((i : Int) ≤ (c : Int)) = True := eq_true (by omega)
 have p7 : ((i : Int) ≤ (n : Int)) = True := eq_true (by omega)
 have p8 : ((n : Int) ≤ (c : Int)) = True := eq_true (by omega)
 have b1 : ((i : Int) == ((i + 1 : Nat) : Int)) = false := by rw [beq_eq_false_iff_ne]; omega
 have b2 : ((i : Int) == (i : Int) + 1) = false := by rw [beq_eq_false_iff_ne]; omega
 have b3 : (((i + 1 : Nat) : Int) == (n : Int)) = false := by rw [beq_eq_false_iff_ne]; omega
 have b4 : ((i : Int) + 1 == (n : Int)) = false := by rw [beq_eq_false_iff_ne]; omega
 have b5 : (i + 1 == n) = false := by rw [beq_eq_false_iff_ne]; omega
 have hnb : n ≤ 4294967296 := hnB
 clear h hv hne hi hn hB hnB
 go_enter Try.func78, Try.ntmps78
 go_wp2_with fail
 go_quiet (fail)
 rw [show (i : Int) + 1 + ((n - (i + 1) : Nat) : Int) = ((n : Nat) : Int) by have := H.out.2.2.2; omega]
 obtain ⟨W1, hW1⟩ : ∃ W1, W1 = W.drewN nq := ⟨_, rfl⟩
 rw [← hW1]
 have h1 : RB W1 67 n0 g c xs tail := by rw [hW1]; exact ⟨H.out.1.blk, H.out.1.bas, H.out.1.hcap, H.out.1.hmax, H.out.1.one⟩
 have v1 : RB W1 67 0 vb vc [y1] tv := by rw [hW1]; exact ⟨H.out.2.1.blk, H.out.2.1.bas, H.out.2.1.hcap, H.out.2.1.hmax, H.out.2.1.one⟩
 have HRB := zA (And.intro h1 v1)
 have HW1 := zA (And.intro (show W1.heap = W.heap by rw [hW1]; rfl) (show Below n0 w0 W1 by rw [hW1]; exact zB HB.out nq))
 have r3 : decide ((c : Int) < (n : Int)) = false := zK (by omega)
 have r4 : decide (c < n) = false := zK (by omega)
 have hcp2 : ∀ ty dc, (Builtin.copy_ #[77, 77] ty #[.slice (some ⟨g, i, none⟩) (n - i) dc, .slice (some ⟨vb, 0, none⟩) 1 vc]).run Try.prog W1 = .ok (goInt [y1].length) (W1.setCells g i [y1]) := fun ty dc =>
  run_copy_cells W1 _ _ ty 67 g i (n - i) dc ⟨vb, 0, none⟩ 1 vc [y1] Try.underlying77 node_sz (by have := H.out.2.2.2; show 1 = Nat.min 1 _; simp only [Nat.min_def]; split <;> omega)
   (fun j v hj => by rw [Addr.add_lit]; exact HRB.out.2.cells j v hj)
   (fun j hj => by have := HRB.out.1.isS (i + j) (by have := H.out.2.2.2; simp at hj; omega); rwa [Nat.zero_add] at this) (fun j hj => HRB.out.1.frozen _) HRB.out.2.one
 clear h1 v1 hW1
 go_wp2_with (at_builtin; refine Go.Proofs.wpList_copy_runI _ rfl _ _ 77 77 rfl _ _ rfl rfl (hcp2 _ _) ?_)
 have HIN := zA (show i + 1 < xs.length from by rw [← HN.out]; exact H.out.2.2.2)
 have hll : (xs.take i ++ [y1] ++ xs.drop (i + 1)).length = n := by have := HIN.out; rw [HN.out]; simp; omega
 have hti : (xs.take i).length = i := by have := HIN.out; rw [zW]; omega
 have hone : ∀ u ∈ xs.take i ++ [y1] ++ xs.drop (i + 1), u.oneCell' = true := fun u hu => (List.mem_append.1 hu).elim (fun hu => (List.mem_append.1 hu).elim (fun h => HRB.out.1.one u (List.mem_of_mem_take h)) (HRB.out.2.one u)) (fun h => HRB.out.1.one u (List.mem_of_mem_drop h))
 have h2 : RB (W1.setCells g i [y1]) 67 n0 g c (xs.take i ++ [y1] ++ xs.drop (i + 1)) tail := by
  have hb := HRB.out.1.blk
  have e : xs ++ tail = xs.take i ++ [xs[i]'(by have := HIN.out; omega)] ++ (xs.drop (i + 1) ++ tail) := by
   rw [← List.append_assoc]
   congr 1
   conv => lhs; rw [← List.take_append_drop i xs, List.drop_eq_getElem_cons (show i < xs.length by have := HIN.out; omega)]
   simp
  rw [e] at hb
  have h3 := heap_setCells_at (t := 67) [y1] W1 (xs.take i) _ (xs.drop (i + 1) ++ tail) hb rfl
  rw [hti] at h3
  exact ⟨by rw [h3, ← List.append_assoc (xs.take i ++ [y1])], HRB.out.1.bas, by rw [hll, HN.out]; exact HRB.out.1.hcap, HRB.out.1.hmax, hone⟩
 have HW2 := zA (And.intro (show ∀ k, k ≠ g → (W1.setCells g i [y1]).heap[k]? = W.heap[k]? from fun k hk => (heap_setCells_other hk _ _ _).trans (by rw [HW1.out.1])) (show Below n0 w0 (W1.setCells g i [y1]) from below_setCells HRB.out.1.bas _ _ _ HW1.out.2))
 have HR2 := zA h2
 have HLL := zA (And.intro hll hti)
 generalize W1.setCells g i [y1] = W2 at *
 clear h2 hcp2 hll hti hone
 have hxl : (xs.drop (i + 1)).length = n - (i + 1) := by rw [zX, ← HN.out]
 have hcp1 : ∀ ty dc sc, (Builtin.copy_ #[77, 77] ty #[.slice (some ⟨g, i + 1, none⟩) (n - (i + 1)) dc, .slice (some ⟨g, i + 1, none⟩) (n - (i + 1)) sc]).run Try.prog W2.drew = .ok (goInt (xs.drop (i + 1)).length) (W2.drew.setCells g (i + 1) (xs.drop (i + 1))) := fun ty dc sc =>
  run_copy_cells W2.drew _ _ ty 67 g (i + 1) (n - (i + 1)) dc ⟨g, i + 1, none⟩ (n - (i + 1)) sc (xs.drop (i + 1)) Try.underlying77 node_sz (by rw [hxl]; simp only [Nat.min_def]; split <;> omega)
   (fun j v hj => by
     rw [Addr.add_lit]
     have := HR2.out.cells (i + 1 + j) v (by
      rw [List.getElem?_append_right (by rw [List.length_append, HLL.out.2]; simp), List.length_append, HLL.out.2]
      rw [show i + 1 + j - (i + [y1].length) = j by simp]
      exact hj)
     rwa [Nat.zero_add] at this)
   (fun j hj => by have := HR2.out.isS (i + 1 + j) (by rw [hxl] at hj; omega); rwa [Nat.zero_add] at this) (fun j hj => HR2.out.frozen _) (fun v hv => HRB.out.1.one v (List.mem_of_mem_drop hv))
 have h3 : (W2.drew.setCells g (i + 1) (xs.drop (i + 1))).heap[g]? = some (.cells ((xs.take i ++ [y1]) ++ xs.drop (i + 1) ++ tail).toArray 67 (0, 0)) := by
  have h4 := heap_setCells_at (t := 67) (xs.drop (i + 1)) W2.drew (xs.take i ++ [y1]) (xs.drop (i + 1)) tail HR2.out.blk rfl
  rw [List.length_append, HLL.out.2] at h4
  exact h4
 have HR3 := zA (show RB (W2.drew.setCells g (i + 1) (xs.drop (i + 1))) 67 n0 g c (xs.take i ++ [y1] ++ xs.drop (i + 1)) tail from ⟨h3, HR2.out.bas, HR2.out.hcap, HR2.out.hmax, HR2.out.one⟩)
 have HW3 := zA (And.intro (show ∀ k, k ≠ g → (W2.drew.setCells g (i + 1) (xs.drop (i + 1))).heap[k]? = W.heap[k]? from fun k hk => (heap_setCells_other hk _ _ _).trans (HW2.out.1 k hk)) (show Below n0 w0 (W2.drew.setCells g (i + 1) (xs.drop (i + 1))) from below_setCells HRB.out.1.bas _ _ _ (below_drew HW2.out.2)))
 have hw1 : IntKind.i64.wrap ((i : Int) + 1) = (i : Int) + 1 := by rw [IntKind.wrap_i64]; omega
 have htn1 : ((i : Int) + 1).toNat = i + 1 := by omega
 have HXL := zA hxl
 clear h3 hxl
 go_region_law (refine Go.Proofs.step_copy_runI rfl _ _ 77 77 rfl _ _ (by simp [Act.eval, Act.put]) (by simp [Act.eval, Act.put]) (hcp1 _ _ _) ?_)
 all_goals
  clear hcp1
  have hclr : ∀ (w : World) (a : Addr) (cc ty : Nat), (Builtin.clear_ #[77] ty #[.slice (some a) 0 cc]).run Try.prog w = .ok (.tuple #[]) w := fun w a cc ty => by
   simp [Builtin.clear_, run_underlying Try.underlying77]
  generalize W2.drew.setCells g (i + 1) (xs.drop (i + 1)) = W3 at *
  rcases Nat.eq_or_lt_of_le hcn with hcn2 | hcn2
  ·subst hcn2
   go_wp2_with fail
   go_ret
   exact ⟨g, _, tail, by rw [HLL.out.1]; rfl, HR3.out, HW3.out.2, Or.inl rfl, fun k _ hk => HW3.out.1 k hk⟩
  ·have hcn3 : ¬ (c = n) := by omega
   go_wp2_with fail
   go_ret
   exact ⟨g, _, tail, by rw [HLL.out.1]; rfl, HR3.out, HW3.out.2, Or.inl rfl, fun k _ hk => HW3.out.1 k hk⟩

/-! ### zzx_repl2: a text by hand -/
-- import Derived.WalkLawsBesides
set_option maxHeartbeats 4000000 in
set_option maxRecDepth 100000 in
theorem rep_end (n0 : Nat) (w0 W : World) (xs vs : List Value) (g c vb vc i n m : Nat) (tail tv : List Value) (hn : n = xs.length) (hm : m = vs.length) (h : RB W 67 n0 g c xs tail) (hv : RB W 67 0 vb vc vs tv) (hi : i + 1 = n) (h1m : 1 ≤ m) (hm2 : m ≤ 2) (hB : Below n0 w0 W) (hnB : n ≤ 4294967296) (hb : n0 ≤ W.heap.size) :
  Calls Try.prog 78 #[.slice (some ⟨g, 0, none⟩) n c, .int .i64 (i : Int), .int .i64 ((i + 1 : Nat) : Int), .slice (some ⟨vb, 0, none⟩) m vc] W fun e w' => ReplEnd n0 w0 W g (xs.take i ++ vs) e w' := by
 have H := zA (And.intro h (And.intro hv (And.intro hi (And.intro h1m hm2))))
 have HN := zA (And.intro hn hm)
 have HB := zA (And.intro hB hb)
 have HNB := zA hnB
 have hcn : n ≤ c := by have := h.hcap; rw [← hn] at this; omega
 have hci : ¬ (c = i) := by omega
 have hin : i ≤ n := by omega
 have hin2 : i ≤ c := by omega
 have hin4 : i + 1 ≤ c := by omega
 have hin5 : i ≤ i + 1 := by omega
 have p1 : (0 ≤ (i : Int)) = True := eq_true (by omega)
 have p2 : ((i : Int) ≤ (i : Int) + 1) = True := eq_true (by omega)
 have p3 : ((i : Int) + 1 ≤ (c : Int)) = True := eq_true (by omega)
 have p5 : (0 ≤ (i : Int) + 1) = True := eq_true (by omega)
 have p6 : ((i : Int) ≤ (c : Int)) = True := eq_true (by omega)
 have b1 : ((i : Int) == ((i + 1 : Nat) : Int)) = false := by rw [beq_eq_false_iff_ne]; omega
 have b2 : ((i : Int) == (i : Int) + 1) = false := by rw [beq_eq_false_iff_ne]; omega
 have b3 : (((i + 1 : Nat) : Int) == (n : Int)) = true := by rw [beq_iff_eq]; omega
 have b4 : ((i : Int) + 1 == (n : Int)) = true := by rw [beq_iff_eq]; omega
 have b5 : (i + 1 == n) = true := by rw [beq_iff_eq]; omega
 have hR0 : (Kd.raw 1).R 67 W n0 (fun _ => True) (.slice (some ⟨g, 0, none⟩) i c) ((xs.take i).map (fun u => [u])) := by
  rw [List.map_take]
  exact Kd.R_take h.raw (by rw [List.length_map]; omega)
 have HR0 := zA hR0
 have hrv := hv.raw
 rw [← hm] at hrv
 have hCv : (Kd.raw 1).C W (some ⟨vb, 0, none⟩) m (vs.map (fun u => [u])) := by
  have := (Kd.R_reads' hrv).2.2
  rwa [List.length_map, ← hm] at this
 have HV0 := zA hCv
 have d1 : decide (i + m < n) = false := zK (by omega)
 have d2 : decide ((i : Int) + (m : Int) < (n : Int)) = false := zK (by omega)
 have d3 : decide (((i + m : Nat) : Int) < (n : Int)) = false := zK (by omega)
 clear h hv hi hn hB hnB hm h1m hm2 hb hR0 hrv hCv
 go_enter Try.func78, Try.ntmps78
 go_wp2_with ((with_reducible refine gate_builtin (b := .append) (xs := #[.tmp 32, .tmp 33]) rfl ?_); at_builtin; go_loud (refine Kd.R_append_rows (Kd.raw 1) (w0 := w0) n0 rfl (.tmp 32) (.tmp 33) 77 67 .nilIface 16 rfl Try.underlying77 infoNode rfl (by decide) (by decide) (.slice (some ⟨g, 0, none⟩) i c) ((xs.take i).map (fun u => [u])) (vs.map (fun u => [u])) _ _ _ (fun _ => True) (fun _ => False) rfl rfl HR0.out HV0.out (fun _ _ h => h) (fun _ h => h.elim) (fun _ _ => trivial) HB.out.1 HB.out.2 (by have h0 := HNB.out; have h1 := H.out.2.2; have h2 := HN.out; rw [List.length_map, zW]; omega) ?_; intro v34 w3 ho hbb hg hat; rw [← List.map_append] at ho; obtain ⟨g', c', t', e34, hrb⟩ := RB_of_raw1 (n := i + m) ho (by have h1 := H.out.2.2; have h2 := HN.out; rw [List.length_append, zW]; omega) (by have h1 := H.out.2.2; omega); subst e34; have HRB := zA hrb; have HB3 := zA hbb; have HG3 := zA hg; have HAT := zA hat; clear ho hbb hg hat hrb))
 go_ret
 refine ⟨g', c', t', by rw [show (xs.take i ++ vs).length = i + m by have h1 := H.out.2.2; have h2 := HN.out; rw [List.length_append, zW]; omega]; rfl, HRB.out, HB3.out, ?_, fun k hlt hk => HG3.out.block k hlt (fun he => hk (by injection he))⟩
 rcases HAT.out with h | ⟨b, hb, hlt⟩
 ·exact Or.inl (by injection h)
 ·injection hb with hb
  exact Or.inr ((show g' = b from hb) ▸ hlt)

/-! ### zzx_repl3: a text by hand -/
-- import Derived.WalkLawsBesides
-- import Derived.Shelf.Spec.SlicesInsertGrow
set_option maxHeartbeats 4000000 in
set_option maxRecDepth 100000 in
theorem rep_grow (n0 : Nat) (w0 W : World) (xs : List Value) (g c vb vc i n : Nat) (tail tv : List Value) (y1 y2 : Value) (hn : n = xs.length) (h : RB W 67 n0 g c xs tail) (hv : RB W 67 0 vb vc [y1, y2] tv) (hi : i + 1 < n) (hroom : c < n + 1) (hB : Below n0 w0 W) (hnB : n ≤ 4294967296) (hb : n0 ≤ W.heap.size) :
  Calls Try.prog 78 #[.slice (some ⟨g, 0, none⟩) n c, .int .i64 (i : Int), .int .i64 ((i + 1 : Nat) : Int), .slice (some ⟨vb, 0, none⟩) 2 vc] W fun e w' => ReplEnd n0 w0 W g (xs.take i ++ [y1, y2] ++ xs.drop (i + 1)) e w' := by
 have H := zA (And.intro h (And.intro hv (And.intro hi hroom)))
 have HN := zA hn
 have HB := zA (And.intro hB hb)
 have hcn : n ≤ c := by have := h.hcap; rw [← hn] at this; omega
 have hci : ¬ (c = i) := by omega
 have hci2 : ¬ (c = i + 1) := by omega
 have hin : i ≤ n := by omega
 have hin2 : i ≤ c := by omega
 have hin3 : i + 1 ≤ n := by omega
 have hin4 : i + 1 ≤ c := by omega
 have hin5 : i ≤ i + 1 := by omega
 have p1 : (0 ≤ (i : Int)) = True := eq_true (by omega)
 have p2 : ((i : Int) ≤ (i : Int) + 1) = True := eq_true (by omega)
 have p3 : ((i : Int) + 1 ≤ (c : Int)) = True := eq_true (by omega)
 have p4 : ((i : Int) + 1 ≤ (n : Int)) = True := eq_true (by omega)
 have p5 : (0 ≤ (i : Int) + 1) = True := eq_true (by omega)
 have p6 : ((i : Int) ≤ (c : Int)) = True := eq_true (by omega)
 have p7 : ((i : Int) ≤ (n : Int)) = True := eq_true (by omega)
 have p9 : ((i : Int) ≤ (n : Int) + 1) = True := eq_true (by omega)
 have pa : ((i : Int) + 2 ≤ (n : Int) + 1) = True := eq_true (by omega)
 have pb : (0 ≤ (i : Int) + 2) = True := eq_true (by omega)
 have b1 : ((i : Int) == ((i + 1 : Nat) : Int)) = false := by rw [beq_eq_false_iff_ne]; omega
 have b2 : ((i : Int) == (i : Int) + 1) = false := by rw [beq_eq_false_iff_ne]; omega
 have b3 : (((i + 1 : Nat) : Int) == (n : Int)) = false := by rw [beq_eq_false_iff_ne]; omega
 have b4 : ((i : Int) + 1 == (n : Int)) = false := by rw [beq_eq_false_iff_ne]; omega
 have b5 : (i + 1 == n) = false := by rw [beq_eq_false_iff_ne]; omega
 have r3 : decide ((c : Int) < (n : Int) + 1) = true := zJ (by omega)
 have r4 : decide (c < n + 1) = true := zJ (by omega)
 have hnb : n ≤ 4294967296 := hnB
 have HNB := zA hnB
 clear h hv hi hroom hn hB hnB hb
 go_enter Try.func78, Try.ntmps78
 go_wp2_with fail
 go_quiet (fail)
 rw [show (i : Int) + 2 + ((n - (i + 1) : Nat) : Int) = ((n + 1 : Nat) : Int) by have := H.out.2.2.1; omega]
 obtain ⟨W1, hW1⟩ : ∃ W1, W1 = W.drewN nq := ⟨_, rfl⟩
 rw [← hW1]
 have h1 : RB W1 67 n0 g c xs tail := by rw [hW1]; exact ⟨H.out.1.blk, H.out.1.bas, H.out.1.hcap, H.out.1.hmax, H.out.1.one⟩
 have v1 : RB W1 67 0 vb vc [y1, y2] tv := by rw [hW1]; exact ⟨H.out.2.1.blk, H.out.2.1.bas, H.out.2.1.hcap, H.out.2.1.hmax, H.out.2.1.one⟩
 have HRB := zA (And.intro h1 v1)
 have HW1 := zA (And.intro (show W1.heap = W.heap by rw [hW1]; rfl) (show Below n0 w0 W1 by rw [hW1]; exact zB HB.out.1 nq))
 obtain ⟨i0, hi0, hzz⟩ := Option.map_eq_some_iff.1 infoNode
 simp only [Prod.mk.injEq] at hzz
 obtain ⟨hz0, hzs, hzb⟩ := hzz
 have hti : (xs.take i).length = i := by rw [zW, ← HN.out]; omega
 have hold : (Builtin.firstCells i0.size i (.slice (some ⟨g, 0, none⟩) i c)).run Try.prog W1.drew = .ok (xs.take i).toArray W1.drew := by
  rw [hzs]
  exact run_firstCells_some W1.drew 1 i ⟨g, 0, none⟩ i c (xs.take i) (by rw [hti]; omega) (fun j v hj => by
    rw [Addr.add_lit]
    rw [List.getElem?_take] at hj
    split at hj
    · exact HRB.out.1.cells j v hj
    · cases hj)
 have hik : i + (n + 1 - i) = n + 1 := by omega
 have hkk : ((n + 1 : Nat) : Int) - (i : Int) = ((n + 1 - i : Nat) : Int) := by omega
 obtain ⟨G, hG⟩ : ∃ G, G = grownCap W1 (n + 1) c 67 := ⟨_, rfl⟩
 obtain ⟨ROW, hROW⟩ : ∃ ROW : Array Value, ROW = (xs.take i).toArray ++ Builtin.zeroCells Value.nilIface.cells (n + 1 - i) ++ Builtin.zeroCells Value.nilIface.cells (G - (n + 1)) := ⟨_, rfl⟩
 obtain ⟨WA, hWA⟩ : ∃ WA, WA = W1.drew.alloc (.cells ROW 67) := ⟨_, rfl⟩
 have hrz : ∀ ty, (Builtin.append_ #[77, 3] ty #[.slice (some ⟨g, 0, none⟩) i c, .int .i64 ((n : Int) + 1 - (i : Int))]).run Try.prog W1 = .ok (.slice (some ⟨W1.heap.size, 0, none⟩) (n + 1) G) WA := fun ty => by
  have h := Lib.run_append_grow_zeros W1 77 3 ty 67 i0 _ .i64 .i64 Try.underlying77 Try.underlying3 hi0 hz0 (some ⟨g, 0, none⟩) i c (xs.take i) hold (n + 1 - i) (by have := H.out.2.2.2; omega) (by have := H.out.2.2.2; omega) (by have := H.out.2.2.2; omega) (by have := H.out.2.2.2; omega) (by rw [hzb]; omega) (by rw [hzb, hik]; exact growslice_fits H.out.2.2.2 (by omega))
  rw [hik] at h
  rw [hWA, hROW, hG]
  rw [show (n : Int) + 1 - (i : Int) = ((n + 1 - i : Nat) : Int) by omega]
  exact h
 have hGe : n + 1 ≤ G := by rw [hG]; exact grownCap_ge W1 _ _ _
 have hGm : G ≤ maxLen := by rw [hG]; exact grownCap_le_maxLen W1 _ _ _ (by unfold maxLen; omega)
 have hG63 : G ≤ 9223372036854775807 := by unfold maxLen at hGm; omega
 obtain ⟨Z1, hZ1⟩ : ∃ Z1, Z1 = (Builtin.zeroCells Value.nilIface.cells (n + 1 - i)).toList := ⟨_, rfl⟩
 obtain ⟨Z2, hZ2⟩ : ∃ Z2, Z2 = (Builtin.zeroCells Value.nilIface.cells (G - (n + 1))).toList := ⟨_, rfl⟩
 have hl1 : Z1.length = n + 1 - i := by rw [hZ1]; exact zero_len _ _ rfl
 have hl2 : Z2.length = G - (n + 1) := by rw [hZ2]; exact zero_len _ _ rfl
 obtain ⟨gN, hgN⟩ : ∃ gN, gN = W1.heap.size := ⟨_, rfl⟩
 rw [← hgN] at hrz
 have hgl : g < W1.heap.size := blk_lt h1.blk
 have hvl : vb < W1.heap.size := blk_lt v1.blk
 have hgg : g ≠ gN := by omega
 have hvg : vb ≠ gN := by omega
 have hbA : WA.heap[gN]? = some (.cells (xs.take i ++ Z1.take 2 ++ (Z1.drop 2 ++ Z2)).toArray 67 (0, 0)) := by
  rw [hWA, hgN]
  refine (blk_new W1.drew _).trans ?_
  rw [← List.append_assoc, List.append_assoc _ (Z1.take 2), List.take_append_drop, hROW, hZ1, hZ2]
  congr 2
  simp
 have hA : ∀ k, k < W1.heap.size → WA.heap[k]? = W1.heap[k]? := fun k hk => by
  rw [hWA]
  exact (below_alloc (zZ W1.drew.heap.size W1.drew) _).block k hk
 have HWA := zA (And.intro hbA (And.intro hA (show Below n0 w0 WA by rw [hWA]; exact (below_drew HW1.out.2).alloc (show n0 ≤ W1.drew.heap.size by show n0 ≤ W1.heap.size; rw [HW1.out.1]; exact HB.out.2) _)))
 have HGG := zA (And.intro hgg (And.intro hvg (And.intro hgN (And.intro hgl hvl))))
 have HGL := zA (And.intro hGe (And.intro hGm (And.intro hl1 (And.intro hl2 hti))))
 have hcpA : ∀ ty dc, (Builtin.copy_ #[77, 77] ty #[.slice (some ⟨gN, i, none⟩) (n + 1 - i) dc, .slice (some ⟨vb, 0, none⟩) 2 vc]).run Try.prog WA = .ok (goInt [y1, y2].length) (WA.setCells gN i [y1, y2]) := fun ty dc =>
  run_copy_cells WA _ _ ty 67 gN i (n + 1 - i) dc ⟨vb, 0, none⟩ 2 vc [y1, y2] Try.underlying77 node_sz (by show 2 = Nat.min 2 _; simp only [Nat.min_def]; split <;> omega)
    (fun j v hj => by
      rw [Addr.add_lit]
      have := HRB.out.2.cells j v hj
      simp only [World.cell?] at this ⊢
      rw [hA vb hvl]
      exact this)
    (fun j hj => by
      rw [blk_cell hbA, List.getElem?_toArray, List.getElem?_eq_getElem (by simp at hj; simp [hti, hl1, hl2]; omega)]
      rfl) (fun j hj => zG hbA _) HRB.out.2.one
 have hB2 : (WA.setCells gN i [y1, y2]).heap[gN]? = some (.cells (xs.take i ++ [y1, y2] ++ (Z1.drop 2 ++ Z2)).toArray 67 (0, 0)) := by
  have h3 := heap_setCells_at (t := 67) [y1, y2] WA (xs.take i) (Z1.take 2) (Z1.drop 2 ++ Z2) hbA (by rw [zW, hl1]; show _ = 2; omega)
  rwa [hti] at h3
 have hBo : ∀ k, k < W1.heap.size → (WA.setCells gN i [y1, y2]).heap[k]? = W1.heap[k]? := fun k hk => (heap_setCells_other (by omega) _ _ _).trans (hA k hk)
 have HWB := zA (And.intro hB2 (And.intro hBo (show Below n0 w0 (WA.setCells gN i [y1, y2]) from below_setCells (by rw [hgN, HW1.out.1]; exact HB.out.2) _ _ _ HWA.out.2.2)))
 obtain ⟨WB, hWB⟩ : ∃ WB, WB = WA.setCells gN i [y1, y2] := ⟨_, rfl⟩
 rw [← hWB] at hcpA HWB
 have hxl : (xs.drop (i + 1)).length = n - (i + 1) := by rw [zX, ← HN.out]
 have hcpB : ∀ ty dc sc, (Builtin.copy_ #[77, 77] ty #[.slice (some ⟨gN, i + 2, none⟩) (n - (i + 1)) dc, .slice (some ⟨g, i + 1, none⟩) (n - (i + 1)) sc]).run Try.prog WB.drew = .ok (goInt (xs.drop (i + 1)).length) (WB.drew.setCells gN (i + 2) (xs.drop (i + 1))) := fun ty dc sc =>
  run_copy_cells WB.drew _ _ ty 67 gN (i + 2) (n - (i + 1)) dc ⟨g, i + 1, none⟩ (n - (i + 1)) sc (xs.drop (i + 1)) Try.underlying77 node_sz (by rw [hxl]; simp only [Nat.min_def]; split <;> omega)
    (fun j v hj => by
      rw [Addr.add_lit]
      have := HRB.out.1.cells (i + 1 + j) v (by rwa [List.getElem?_drop] at hj)
      rw [Nat.zero_add] at this
      simp only [World.cell?] at this ⊢
      rw [show WB.drew.heap[g]? = W1.heap[g]? from HWB.out.2.1 g hgl]
      exact this)
    (fun j hj => by
      rw [blk_cell (show WB.drew.heap[gN]? = _ from HWB.out.1), List.getElem?_toArray, List.getElem?_eq_getElem (by rw [hxl] at hj; simp [hti, hl1, hl2]; omega)]
      rfl) (fun j hj => zG (show WB.drew.heap[gN]? = _ from HWB.out.1) _) (fun v hv => HRB.out.1.one v (List.mem_of_mem_drop hv))
 have hC2 : (WB.drew.setCells gN (i + 2) (xs.drop (i + 1))).heap[gN]? = some (.cells ((xs.take i ++ [y1, y2]) ++ xs.drop (i + 1) ++ Z2).toArray 67 (0, 0)) := by
  have h3 := heap_setCells_at (t := 67) (xs.drop (i + 1)) WB.drew (xs.take i ++ [y1, y2]) (Z1.drop 2) Z2 (by rw [List.append_assoc _ (Z1.drop 2)]; exact HWB.out.1) (by rw [hxl, zX, hl1]; omega)
  rw [List.length_append, hti] at h3
  exact h3
 have HWC := zA (And.intro hC2 (And.intro (show ∀ k, k < W1.heap.size → (WB.drew.setCells gN (i + 2) (xs.drop (i + 1))).heap[k]? = W1.heap[k]? from fun k hk => (heap_setCells_other (by omega) _ _ _).trans (HWB.out.2.1 k hk)) (show Below n0 w0 (WB.drew.setCells gN (i + 2) (xs.drop (i + 1))) from below_setCells (by rw [hgN, HW1.out.1]; exact HB.out.2) _ _ _ (below_drew HWB.out.2.2))))
 have hw1 : IntKind.i64.wrap ((i : Int) + 2) = (i : Int) + 2 := by rw [IntKind.wrap_i64]; omega
 have hw2 : IntKind.i64.wrap ((n : Int) + 1 - (i : Int)) = (n : Int) + 1 - (i : Int) := by rw [IntKind.wrap_i64]; omega
 have htn : ((i : Int) + 2).toNat = i + 2 := by omega
 have htn1 : ((i : Int) + 1).toNat = i + 1 := by omega
 have hGi : ¬ (G = i) := by omega
 have hGi2 : ¬ (G = i + 2) := by have := H.out.2.2.1; omega
 have HXL := zA hxl
 clear h1 v1 hi0 hz0 hzs hzb hold hik hkk hG hROW hGe hGm hZ1 hZ2 hl1 hl2 hgN hgl hvl hgg hvg hbA hA hB2 hBo hxl hC2 hti hW1 hWA hWB
 go_wp2_with (first
  | (at_builtin; refine Lib.wpList_append_run _ rfl _ _ _ _ rfl _ _ rfl rfl _ _ (hrz _) ?_)
  | (at_builtin; refine Go.Proofs.wpList_copy_runI _ rfl _ _ 77 77 rfl _ _ rfl rfl (hcpA _ _) ?_))
 go_region_law (refine Go.Proofs.step_copy_runI rfl _ _ 77 77 rfl _ _ (by simp [Act.eval, Act.put]) (by simp [Act.eval, Act.put]) (hcpB _ _ _) ?_)
 all_goals
  clear hcpA hcpB hrz
  generalize WB.drew.setCells gN (i + 2) (xs.drop (i + 1)) = WC at *
  go_wp2_with fail
  go_ret
  have hlen : (xs.take i ++ [y1, y2] ++ xs.drop (i + 1)).length = n + 1 := by
    rw [List.length_append, List.length_append, HGL.out.2.2.2.2, HXL.out]
    have := H.out.2.2.1
    show i + 2 + _ = _
    omega
  refine ⟨gN, G, Z2, by rw [hlen]; rfl, ⟨HWC.out.1, by have := HGG.out.2.2.1; have := HB.out.2; rw [HW1.out.1] at *; omega, by rw [hlen, HGL.out.2.2.2.1]; have := HGL.out.1; omega, HGL.out.2.1, fun u hu => ?_⟩, HWC.out.2.2, Or.inr (by rw [HGG.out.2.2.1, HW1.out.1]; exact zY _), fun k hlt _ => (HWC.out.2.1 k (by rw [HW1.out.1]; exact hlt)).trans (by rw [HW1.out.1])⟩
  rcases List.mem_append.1 hu with hu | hu
  · rcases List.mem_append.1 hu with hu | hu
    · exact HRB.out.1.one u (List.mem_of_mem_take hu)
    · exact HRB.out.2.one u hu
  · exact HRB.out.1.one u (List.mem_of_mem_drop hu)

/-! ### zzx_tclone: a text by hand -/
-- uses blk_cells4
set_option maxHeartbeats 16000000 in
set_option maxRecDepth 100000 in
theorem tclone_any (A : Option Addr) (c : Nat) (ns : List S90) (W : World) (hC : Kd.C k90 W A ns.length ns) (hc : ns.length ≤ c) (hl : ns.length ≤ 1048576) (hb : ∀ x ∈ ns, x.f1.length ≤ 1048576 ∧ x.f2.length ≤ 1048576) :
  Calls Try.prog 56 #[.agg #[.slice A ns.length c]] W fun e w' => ∃ A' c', e = .returned (.agg #[.slice A' ns.length c']) ∧ Kd.S k90 90 w' W.heap.size (fun k => W.heap.size + 3 ≤ k) (.slice A' ns.length c') ns ∧ Below W.heap.size W w' := by
 have hu24 := Try.underlying24
 have hu90 := Try.underlying90
 obtain ⟨m0, hm0⟩ : ∃ m0, m0 = W.heap.size := ⟨_, rfl⟩
 have hb0 : Below m0 W (((W.alloc (.cells #[.slice A ns.length c] 24)).alloc (.cells #[.slice none 0 0] 24)).alloc (.cells #[.slice none 0 0] 24)) := by rw [hm0]; exact below_alloc (below_alloc (below_alloc (zZ _ _) _) _) _
 have K0 := zA (zF (zF (blk_new W (.cells #[.slice A ns.length c] 24)) (.cells #[.slice none 0 0] 24)) (.cells #[.slice none 0 0] 24))
 have K1 := zA (zF (blk_new (W.alloc (.cells #[.slice A ns.length c] 24)) (.cells #[.slice none 0 0] 24)) (.cells #[.slice none 0 0] 24))
 have K2 := zA (blk_new ((W.alloc (.cells #[.slice A ns.length c] 24)).alloc (.cells #[.slice none 0 0] 24)) (.cells #[.slice none 0 0] 24))
 rw [show (W.alloc (.cells #[.slice A ns.length c] 24)).heap.size = W.heap.size + 1 by simp] at K1
 rw [show ((W.alloc (.cells #[.slice A ns.length c] 24)).alloc (.cells #[.slice none 0 0] 24)).heap.size = W.heap.size + 1 + 1 by simp] at K2
 have HZ := zA (show m0 + 3 ≤ (((W.alloc (.cells #[.slice A ns.length c] 24)).alloc (.cells #[.slice none 0 0] 24)).alloc (.cells #[.slice none 0 0] 24)).heap.size by rw [hm0]; simp)
 have HCW := zA hC
 have HB := zA hb0
 have HL := zA (And.intro hc (And.intro hl hb))
 rw [← hm0] at K0 K1 K2 ⊢
 have HM := zA hm0
 clear hb0 hC hc hl hb hm0
 go_enter Try.func56, Try.ntmps56
 go_upto_region 2 with (fail)
 generalize (((W.alloc (.cells #[.slice A ns.length c] 24)).alloc (.cells #[.slice none 0 0] 24)).alloc (.cells #[.slice none 0 0] 24)) = W0 at *
 rw [← HM.out]
 have x0 : W0.cell? ⟨m0, 0, none⟩ = some (.slice A ns.length c) := (blk_cell K0.out 0).trans rfl
 go_wp2_with fail
 clear x0 K0
 go_loopg [5, 9] ns.length (fun kq v5 v9 w' => ∃ (j : Nat) (A3 : Option Addr) (c3 n3 : Nat), v9 = .int .i64 (j : Int) ∧ Aside0 (j ≤ ns.length ∧ ns.length ≤ kq + j) ∧ Aside0 (n3 = j) ∧ Aside0 (w'.heap[m0 + 1 + 1]? = some (.cells #[.slice A3 n3 c3] 24 (0, 0))) ∧ Aside0 (w'.heap[m0 + 1]? = some (.cells #[.slice none 0 0] 24 (0, 0))) ∧ Aside0 (Kd.S k90 90 w' m0 (fun k => m0 + 3 ≤ k) (.slice A3 n3 c3) (ns.take j)) ∧ Aside0 (Below m0 W w') ∧ Aside0 (m0 + 3 ≤ w'.heap.size))
 case atStart => exact ⟨0, none, 0, 0, rfl, ⟨by omega, by omega⟩, ⟨rfl⟩, K2, K1, ⟨Kd.S_nil _ _ _ _ _⟩, HB, HZ⟩
 case round =>
  clear K1 K2 HB HZ
  obtain ⟨j, A3, c3, n3, rfl, HI, HN, K2, K1, HS, HB, HZ⟩ := hrel
  obtain ⟨x0, y0⟩ : wr.cell? ⟨m0 + 1 + 1, 0, none⟩ = some (.slice A3 n3 c3) ∧ wr.frozen? ⟨m0 + 1 + 1, 0, none⟩ = false := ⟨(blk_cell K2.out 0).trans rfl, zG K2.out 0⟩
  obtain ⟨x1, y1⟩ : wr.cell? ⟨m0 + 1, 0, none⟩ = some (.slice none 0 0) ∧ wr.frozen? ⟨m0 + 1, 0, none⟩ = false := ⟨(blk_cell K1.out 0).trans rfl, zG K1.out 0⟩
  by_cases cj : j < ns.length
  case neg =>
   have cjb : decide (j < ns.length) = false := zK cj
   have hj : j = ns.length := by have := HI.out; omega
   have HS2 := zA (show Kd.S k90 90 wr m0 (fun k => m0 + 3 ≤ k) (.slice A3 n3 c3) ns by have := HS.out; rwa [hj, List.take_length] at this)
   have HNN := zA (show n3 = ns.length by rw [HN.out, hj])
   clear hj cj
   go_wp2_with fail
   refine bodyPost_ret (yK rfl _ _ (m0 + 1) 24 #[.slice A3 n3 c3] (0, 0) _ rfl (blk_put K1.out 0 _ rfl) hu24 rfl (by kernel_rfl)) rfl ?_
   rw [← HNN.out]
   exact ⟨A3, c3, rfl, Kd.S_far (p := ⟨m0 + 1, 0, none⟩) HS2.out (fun k hk => by show k ≠ m0 + 1; omega) _, HB.out.setCell (show m0 ≤ m0 + 1 by omega) _⟩
  case pos =>
   have cjb : decide (j < ns.length) = true := zJ cj
   obtain ⟨mm, rfl⟩ : ∃ mm, gk = mm + 1 := ⟨gk - 1, by have := HI.out; omega⟩
   have hC := heap90.C (w := W) (w1 := wr) (fun k hk => HB.out.block k (by have := HM.out; omega)) HCW.out
   obtain ⟨ad, A1, c1, A2, c2, rfl, e0, e1, e2, e3, l1, C1, l2, C2⟩ := at_T90 hC (j : Int) (by omega) (by omega)
   obtain ⟨x, hx⟩ : ∃ x, x = ns[j]'cj := ⟨_, rfl⟩
   rw [rd90_at _ _ cj, ← hx] at e0 e1 e2 e3 l1 C1 l2 C2
   simp only [Int.toNat_natCast] at e0 e1 e2 e3
   have hxb := HL.out.2.2 x (by rw [hx]; exact List.getElem_mem cj)
   have HXL := zA (And.intro hxb (And.intro l1 l2))
   have HT := zA (show ns.take (j + 1) = ns.take j ++ [x] by rw [List.take_add_one, List.getElem?_eq_getElem cj, hx]; rfl)
   have HTL := zA (show (ns.take j).length = n3 by rw [HN.out, zW]; omega)
   have p5 : (0 ≤ (j : Int)) = True := eq_true (by omega)
   have q5 : ((j : Int) < (ns.length : Int)) = True := eq_true (by omega)
   have q6 : (j < ns.length) = True := eq_true cj
   have HW1 := zA (w64m j (by have := HL.out.2.1; omega))
   have CJ := zA cj
   have HCX := zA (And.intro C1 C2)
   clear l1 l2 C1 C2 hxb cj hx hC
   go_upto_region 5 with (fail)
   have hba : Below wr.heap.size wr (wr.alloc (.cells #[.bool x.f0, .slice A1 x.f1.length c1, .slice A2 x.f2.length c2, .int .i64 x.f3] 90)) := below_alloc (zZ _ _) _
   have KP := zA (blk_new wr (.cells #[.bool x.f0, .slice A1 x.f1.length c1, .slice A2 x.f2.length c2, .int .i64 x.f3] 90))
   have K25 := zA (zH K2.out hba)
   have K15 := zA (zH K1.out hba)
   have HS5 := zA (Kd.S_below (Kd.S_bound HS.out) hba)
   have HB5 := zA (below_lo HB.out hba (by have := HZ.out; omega))
   have HCX5 := zA (And.intro (zQ HCX.out.1 hba) (zQ HCX.out.2 hba))
   have HZ5 := zA (show wr.heap.size + 1 ≤ (wr.alloc (.cells #[.bool x.f0, .slice A1 x.f1.length c1, .slice A2 x.f2.length c2, .int .i64 x.f3] 90)).heap.size by simp)
   generalize (wr.alloc (.cells #[.bool x.f0, .slice A1 x.f1.length c1, .slice A2 x.f2.length c2, .int .i64 x.f3] 90)) = W5 at *
   obtain ⟨bp, hbp⟩ : ∃ bp, bp = wr.heap.size := ⟨_, rfl⟩
   rw [← hbp] at KP HZ5 HZ ⊢
   have HBP := zA hbp
   clear hba e0 e1 e2 e3 x0 y0 x1 y1 K2 K1 hbp HCX
   obtain ⟨z0, z1, z2, z3, u0, u1, u2, u3⟩ := blk_cells4 KP.out
   go_region_law (first
    | (go_simp
       go_at_call 61
       refine (cloneS_any A1 c1 x.f1 W5.drew (zT HCX5.out.1) HXL.out.2.1 (by have := HXL.out.1.1; omega)).mono ?_
       rintro e W6 ⟨B1, d1, rfl, hR, hbb⟩
       have HR6 := zA hR
       have HD6 := zA (show Below W5.heap.size W5 W6 from below_lo (below_drew (zZ _ _)) hbb (zY _))
       have KP6 := zA (zH KP.out HD6.out)
       clear hR hbb z0 z1 z2 z3 u0 u1 u2 u3
       obtain ⟨z0, z1, z2, z3, u0, u1, u2, u3⟩ := blk_cells4 KP6.out)
    | (go_simp
       go_at_call 76
       refine (cloneI_any A2 c2 x.f2 W6 (zQ HCX5.out.2 HD6.out) HXL.out.2.2 (by have := HXL.out.1.2; omega)).mono ?_
       rintro e W7 ⟨B2, d2, rfl, hR, hbb⟩
       have HR7 := zA hR
       have HR67 := zA (Kd.R_below HR6.out hbb)
       have HD7 := zA (show Below W5.heap.size W5 W7 from below_lo HD6.out hbb HD6.out.size)
       have HZ67 := zA (And.intro HD6.out.size hbb.size)
       have HLT6 := zA (Kd.R_lt HR6.out)
       have KP7 := zA (zH KP.out HD7.out)
       clear hR hbb z0 z1 z2 z3 u0 u1 u2 u3
       obtain ⟨z0, z1, z2, z3, u0, u1, u2, u3⟩ := blk_cells4 KP7.out))
   all_goals
    have hS5 := HS5.out
    have hlt5 : ∀ k, W5.heap.size ≤ k → k ≠ bp := fun k hk => by have := HZ5.out; omega
    have KP8 := zA (blk_put (blk_put KP7.out 1 (.slice B1 x.f1.length d1) rfl) 2 (.slice B2 x.f2.length d2) rfl)
    have K28 := zA (blk_far (p := ⟨bp, 2, none⟩) (blk_far (p := ⟨bp, 1, none⟩) (zH K25.out HD7.out) (show m0 + 1 + 1 ≠ bp by have := HZ.out; omega) (.slice B1 x.f1.length d1)) (show m0 + 1 + 1 ≠ bp by have := HZ.out; omega) (.slice B2 x.f2.length d2))
    have K18 := zA (blk_far (p := ⟨bp, 2, none⟩) (blk_far (p := ⟨bp, 1, none⟩) (zH K15.out HD7.out) (show m0 + 1 ≠ bp by have := HZ.out; omega) (.slice B1 x.f1.length d1)) (show m0 + 1 ≠ bp by have := HZ.out; omega) (.slice B2 x.f2.length d2))
    have HS8 := zA (Kd.S_far (p := ⟨bp, 2, none⟩) (Kd.S_far (p := ⟨bp, 1, none⟩) (Kd.S_below hS5 HD7.out) (fun k hk => by have h1 := hk.2.2.1; have h2 := HBP.out; show k ≠ bp; omega) (.slice B1 x.f1.length d1)) (fun k hk => by have h1 := hk.2.2.1; have h2 := HBP.out; show k ≠ bp; omega) (.slice B2 x.f2.length d2))
    have HB8 := zA (show Below m0 W ((W7.setCell ⟨bp, 1, none⟩ (.slice B1 x.f1.length d1)).setCell ⟨bp, 2, none⟩ (.slice B2 x.f2.length d2)) from ((below_lo HB5.out HD7.out (by have := HZ.out; have := HZ5.out; omega)).setCell (show m0 ≤ bp by have := HZ.out; omega) _).setCell (show m0 ≤ bp by have := HZ.out; omega) _)
    have hb6 := Kd.R_base HR6.out
    have hb7 := Kd.R_base HR7.out
    have HR18 := zA (Kd.R_far (p := ⟨bp, 2, none⟩) (Kd.R_far (p := ⟨bp, 1, none⟩) (yA (ok' := fun k => W5.heap.size ≤ k ∧ k < W6.heap.size) (Kd.R_tight rfl HR67.out) (fun k hk => ⟨hb6 k hk.symm, HLT6.out k hk.symm⟩)) (fun k hk => hlt5 k hk.1) (.slice B1 x.f1.length d1)) (fun k hk => hlt5 k hk.1) (.slice B2 x.f2.length d2))
    have HR28 := zA (Kd.R_far (p := ⟨bp, 2, none⟩) (Kd.R_far (p := ⟨bp, 1, none⟩) (yA (ok' := fun k => W5.heap.size ≤ k) (Kd.R_tight rfl HR7.out) (fun k hk => yI HZ67.out.1 (hb7 k hk.symm))) (fun k hk => hlt5 k hk) (.slice B1 x.f1.length d1)) (fun k hk => hlt5 k hk) (.slice B2 x.f2.length d2))
    have HZ8 := zA (show m0 + 3 ≤ ((W7.setCell ⟨bp, 1, none⟩ (.slice B1 x.f1.length d1)).setCell ⟨bp, 2, none⟩ (.slice B2 x.f2.length d2)).heap.size by have h1 := HD7.out.size; have h2 := HZ5.out; have h3 := HZ.out; simp [World.setCell]; omega)
    have HZZ := zA (show W5.heap.size ≤ ((W7.setCell ⟨bp, 1, none⟩ (.slice B1 x.f1.length d1)).setCell ⟨bp, 2, none⟩ (.slice B2 x.f2.length d2)).heap.size by have h1 := HD7.out.size; simp [World.setCell]; omega)
    clear hS5 hb6 hb7 hlt5 z0 z1 z2 z3 u0 u1 u2 u3
    generalize (W7.setCell ⟨bp, 1, none⟩ (.slice B1 x.f1.length d1)).setCell ⟨bp, 2, none⟩ (.slice B2 x.f2.length d2) = W8 at *
    obtain ⟨z0, z1, z2, z3, u0, u1, u2, u3⟩ := blk_cells4 KP8.out
    obtain ⟨x0, y0⟩ : W8.cell? ⟨m0 + 1 + 1, 0, none⟩ = some (.slice A3 n3 c3) ∧ W8.frozen? ⟨m0 + 1 + 1, 0, none⟩ = false := ⟨(blk_cell K28.out 0).trans rfl, zG K28.out 0⟩
    have hs3 := Kd.S_lt HS8.out
    have hss := Kd.S_typed HS8.out
    go_wp2_with ((with_reducible refine gate_builtin (b := .append) (xs := #[.tmp 22, .tmp 24]) rfl ?_); at_builtin; go_loud (refine Kd.S_append k90 (w0 := W) (W := W8) m0 rfl (.tmp 22) (.tmp 24) 22 90 (.agg #[(.bool false), (.slice none 0 0), (.slice none 0 0), (.int .i64 0)]) 64 rfl Try.underlying22 info90 rfl (by decide) (by omega) (.slice A3 n3 c3) (ns.take j) x [.bool x.f0, .slice B1 x.f1.length d1, .slice B2 x.f2.length d2, .int .i64 x.f3] (fun k => m0 + 3 ≤ k) (fun k => W5.heap.size ≤ k) rfl rfl ?aP ?aK ?aF ?aO ?aB ?aS ?aL ?_; (case aP => exact k90_mkM _ _ _ x (Kd.R_lower (yA HR18.out (fun k hk => hk.1)) (by have := HZ.out; have := HZ5.out; show m0 ≤ W5.heap.size; omega)) (Kd.R_lower HR28.out (by have := HZ.out; have := HZ5.out; have := HZ67.out.1; omega))); (case aK => exact fun k hk => ⟨by have := HZ.out; have := HZ5.out; omega, fun he => by have h1 := (Kd.S_R HS8.out).1 k he.symm; have h2 := h1.2.2.1; have := HBP.out; have := HZ5.out; omega⟩); (case aF => exact fun k hk => by have := HZ8.out; omega); (case aO => exact yB HS8.out (fun k hk => ⟨hk.1, fun h => by have h2 := hk.2.2.1; have := HBP.out; have := HZ5.out; omega⟩)); (case aB => exact HB8.out); (case aS => exact (by have := HZ8.out; omega)); (case aL => have h1 := HTL.out; have h2 := HN.out; have h3 := CJ.out; have h4 := HL.out.2.1; omega); intro v25 w9 ho hbb hg hat; rw [← HT.out] at ho; obtain ⟨A9, c9, e9⟩ := Kd.S_slice ho; obtain ⟨n9, hn9⟩ : ∃ n9, n9 = (ns.take (j + 1)).length := ⟨_, rfl⟩; rw [← hn9] at e9; have HN9 := zA hn9; subst e9; have HO9 := zA ho; have HB9 := zA hbb; have K29 := zA (blk_grown K28.out hg (Kd.S_ne HS8.out K28.out (by decide))); have K19 := zA (blk_grown K18.out hg (Kd.S_ne HS8.out K18.out (by decide))); have HZ9 := zA (yI HZ8.out hg.size); clear ho hbb hg hat hn9 x0 y0 z0 z1 z2 z3 u0 u1 u2 u3; obtain ⟨x0, y0⟩ : w9.cell? ⟨m0 + 1 + 1, 0, none⟩ = some (.slice A3 n3 c3) ∧ w9.frozen? ⟨m0 + 1 + 1, 0, none⟩ = false := ⟨(blk_cell K29.out 0).trans rfl, zG K29.out 0⟩))
    go_roundg mm
    case measure => omega
    case rel =>
      refine ⟨j + 1, A9, c9, n9, by first | (rw [HW1.out]; done) | (simp; done), ⟨by have := CJ.out; omega, by have := HI.out; omega⟩, ⟨by have := CJ.out; rw [HN9.out, zW]; omega⟩, ⟨blk_put K29.out 0 _ rfl⟩, ⟨blk_far (p := ⟨m0 + 1 + 1, 0, none⟩) K19.out (show m0 + 1 ≠ m0 + 1 + 1 by omega) _⟩, ⟨Kd.S_far (p := ⟨m0 + 1 + 1, 0, none⟩) HO9.out (fun k hk => by show k ≠ m0 + 1 + 1; omega) _⟩, ⟨HB9.out.setCell (show m0 ≤ m0 + 1 + 1 by omega) _⟩, ⟨by have := HZ9.out; simp [World.setCell]; omega⟩⟩

/-! ### zzy_replN: a text by hand -/
theorem N_RB {d : Nat} {e : Nat} {w : World} {base : Nat} {ok : Nat → Prop} {v : Value} {xs : List S56} (h : Kd.N (kN d) e w base ok v xs) (hp : 0 < xs.length) :
  ∃ g cap tail us, v = .slice (some ⟨g, 0, none⟩) xs.length cap ∧ RB w e base g cap us tail ∧ us.length = xs.length ∧ ok g ∧ ∀ (j : Nat) (x : S56) (u : Value), xs[j]? = some x → us[j]? = some u → Kd.FK (kN d) w (fun k => ok k ∧ k ≠ g) x [u] := by
 obtain ⟨h0, rows, hl, hR, hf⟩ := h
 have hlen : ∀ (j : Nat) (x : S56) (c : List Value), xs[j]? = some x → rows[j]? = some c → c.length = 1 := fun j x c hx hc => by
  have := (kN d).K_len (Kd.FK_now (hf j x c hx hc))
  rwa [kN_sz] at this
 obtain ⟨us, hus⟩ : ∃ us, us = rows.map (fun c => c.headD undef) := ⟨_, rfl⟩
 have hrow : rows = us.map (fun u => [u]) := by
  rw [hus, List.map_map]
  apply List.ext_getElem
  ·simp
  ·intro j h1 h2
   have hj : j < xs.length := by omega
   have := hlen j xs[j] rows[j] (List.getElem?_eq_getElem hj) (List.getElem?_eq_getElem h1)
   rw [List.getElem_map]
   rcases hr : rows[j] with _ | ⟨u, r⟩
   ·rw [hr] at this; simp at this
   ·rw [hr] at this
    simp only [List.length_cons] at this
    have : r = [] := List.length_eq_zero_iff.1 (by omega)
    subst this
    simp
 rw [kN_sz, hrow] at hR
 have hul : us.length = xs.length := by rw [hus, List.length_map, hl]
 obtain ⟨g, cap, tail, hv, hrb⟩ := RB_of_raw1 hR hul hp
 refine ⟨g, cap, tail, us, hv, hrb, hul, h0 g (by rw [hv]; rfl), fun j x u hx hu => ?_⟩
 have h1 := hf j x [u] hx (by rw [hrow, List.getElem?_map, hu]; rfl)
 exact yD h1 (fun k hk => ⟨hk.1, fun he => hk.2 (by rw [hv, he]; rfl)⟩)
theorem RB_N {d : Nat} {e : Nat} {w : World} {base g cap : Nat} {ok : Nat → Prop} {us tail : List Value} {xs : List S56} (h : RB w e base g cap us tail) (hl : us.length = xs.length) (hok : ok g) (hf : ∀ (j : Nat) (x : S56) (u : Value), xs[j]? = some x → us[j]? = some u → Kd.FK (kN d) w (fun k => ok k ∧ k ≠ g) x [u]) :
  Kd.N (kN d) e w base ok (.slice (some ⟨g, 0, none⟩) xs.length cap) xs := by
 have ho : ∀ k, (Value.slice (some ⟨g, 0, none⟩) xs.length cap).ownBlock = some k → k = g := fun k hk => by
  have : g = k := by simpa [Value.ownBlock] using hk
  exact this.symm
 refine ⟨fun k hk => by rw [ho k hk]; exact hok, us.map (fun u => [u]), by rw [List.length_map, hl], ?_, fun j x c hx hc => ?_⟩
 ·rw [kN_sz]
  have := h.raw
  rw [hl] at this
  exact Kd.R_tight rfl this
 ·rw [List.getElem?_map, Option.map_eq_some_iff] at hc
  obtain ⟨u, hu, rfl⟩ := hc
  exact yD (hf j x u hx hu) (fun k hk => ⟨hk.1, fun he => hk.2 (ho k he.symm)⟩)
theorem replN_any {d : Nat} (n0 b0 : Nat) (w0 W : World) (ks ys : List S56) (ok ok2 : Nat → Prop) (A A2 : Option Addr) (c c2 i : Nat) (hs : Kd.N (kN d) 67 W n0 ok (.slice A ks.length c) ks) (hv : Kd.N (kN d) 67 W b0 ok2 (.slice A2 ys.length c2) ys) (hi : i < ks.length) (hk4 : ks.length ≤ 5) (hy1 : 1 ≤ ys.length) (hy2 : ys.length ≤ 2) (hap : ∀ k, (Value.slice A ks.length c).ownBlock = some k → ¬ ok2 k) (hB : Below n0 w0 W) (hb : n0 ≤ W.heap.size) :
  Calls Try.prog 78 #[.slice A ks.length c, .int .i64 (i : Int), .int .i64 ((i + 1 : Nat) : Int), .slice A2 ys.length c2] W fun e w' => ∃ A' c', e = .returned (.slice A' (ks.take i ++ ys ++ ks.drop (i + 1)).length c') ∧ Kd.N (kN d) 67 w' n0 (fun k => (ok k ∨ ok2 k) ∨ W.heap.size ≤ k) (.slice A' (ks.take i ++ ys ++ ks.drop (i + 1)).length c') (ks.take i ++ ys ++ ks.drop (i + 1)) ∧ Below n0 w0 w' := by
 obtain ⟨g, cap, tail, us, hv1, hr, hul, hog, hfs⟩ := N_RB hs (by omega)
 injection hv1 with e1 e2 e3
 subst e1 e3
 obtain ⟨vb, vcap, vtail, vs, hv2, hr2, hvl, hov, hfv⟩ := N_RB hv (by omega)
 injection hv2 with e1 e2 e3
 subst e1 e3
 have hg2 : ¬ ok2 g := hap g rfl
 have hne : vb ≠ g := fun he => hg2 (he ▸ hov)
 have hr2' : RB W 67 0 vb c2 vs vtail := ⟨hr2.blk, Nat.zero_le _, hr2.hcap, hr2.hmax, hr2.one⟩
 have hend : ∀ (e : Ending) (w' : World), ReplEnd n0 w0 W g (us.take i ++ vs ++ us.drop (i + 1)) e w' → ∃ A' c', e = .returned (.slice A' (ks.take i ++ ys ++ ks.drop (i + 1)).length c') ∧ Kd.N (kN d) 67 w' n0 (fun k => (ok k ∨ ok2 k) ∨ W.heap.size ≤ k) (.slice A' (ks.take i ++ ys ++ ks.drop (i + 1)).length c') (ks.take i ++ ys ++ ks.drop (i + 1)) ∧ Below n0 w0 w' := by
  rintro e w' ⟨g', c', t', rfl, hrb, hbb, hg', hfr⟩
  have hlen : (us.take i ++ vs ++ us.drop (i + 1)).length = (ks.take i ++ ys ++ ks.drop (i + 1)).length := by
   simp only [List.length_append, zW, zX, hul, hvl]
  refine ⟨some ⟨g', 0, none⟩, c', by rw [hlen], RB_N hrb hlen (hg'.elim (fun h => Or.inl (Or.inl (h ▸ hog))) Or.inr) ?_, hbb⟩
  have hmv : ∀ (x : S56) (u : Value) (okx : Nat → Prop), Kd.FK (kN d) W (fun k => okx k ∧ k ≠ g) x [u] → (∀ k, okx k → ok k ∨ ok2 k) → Kd.FK (kN d) w' (fun k => ((ok k ∨ ok2 k) ∨ W.heap.size ≤ k) ∧ k ≠ g') x [u] := fun x u okx h hx => by
   have h1 := Kd.FK_step (W1 := w') (Kd.FK_bound h) (fun k hk hlt => hfr k hlt hk.1.2)
   refine yD h1 (fun k hk => ⟨Or.inl (hx k hk.1.1), fun he => ?_⟩)
   rcases hg' with h2 | h2
   ·exact hk.1.2 (by rw [he, h2])
   ·have := hk.2; omega
  intro j x u hx hu
  by_cases c1 : j < (ks.take i ++ ys).length
  ·rw [List.getElem?_append_left c1] at hx
   rw [List.getElem?_append_left (by simp only [List.length_append, zW, hul, hvl] at c1 ⊢; exact c1)] at hu
   by_cases c2 : j < (ks.take i).length
   ·rw [List.getElem?_append_left c2] at hx
    rw [List.getElem?_append_left (by simp only [zW, hul] at c2 ⊢; exact c2)] at hu
    rw [List.getElem?_take] at hx hu
    split at hx
    ·next h3 =>
     rw [if_pos h3] at hu
     exact hmv x u ok (hfs j x u hx hu) (fun k hk => Or.inl hk)
    ·cases hx
   ·rw [List.getElem?_append_right (by omega)] at hx
    rw [List.getElem?_append_right (by simp only [zW, hul] at c2 ⊢; omega)] at hu
    rw [show (us.take i).length = (ks.take i).length by simp only [zW, hul]] at hu
    have h4 := hfv _ x u hx hu
    refine hmv x u ok2 (yD h4 (fun k hk => ⟨hk.1, fun he => hg2 (he ▸ hk.1)⟩)) (fun k hk => Or.inr hk)
  ·rw [List.getElem?_append_right (by omega)] at hx
   rw [List.getElem?_append_right (by simp only [List.length_append, zW, hul, hvl] at c1 ⊢; omega)] at hu
   rw [show (us.take i ++ vs).length = (ks.take i ++ ys).length by simp only [List.length_append, zW, hul, hvl]] at hu
   rw [List.getElem?_drop] at hx hu
   exact hmv x u ok (hfs _ x u hx hu) (fun k hk => Or.inl hk)
 by_cases cj : i + 1 = ks.length
 ·have h1 := rep_end n0 w0 W us vs g c vb c2 i ks.length ys.length tail vtail hul.symm hvl.symm hr hr2' cj hy1 hy2 hB (by omega) hb
  refine h1.mono fun e w' hh => hend e w' ?_
  rw [List.drop_of_length_le (by omega), List.append_nil]
  exact hh
 ·have hlt : i + 1 < ks.length := by omega
  by_cases c1 : ys.length = 1
  ·obtain ⟨y1, rfl⟩ : ∃ y1, vs = [y1] := List.length_eq_one_iff.1 (by omega)
   rw [c1]
   have h1 := rep_one n0 w0 W us g c vb c2 i ks.length tail vtail y1 hul.symm hr hr2' hlt hne hB (by omega)
   exact h1.mono fun e w' hh => hend e w' hh
  ·have c2' : ys.length = 2 := by omega
   obtain ⟨y1, y2, rfl⟩ : ∃ y1 y2, vs = [y1, y2] := by
    rcases vs with _ | ⟨y1, _ | ⟨y2, _ | ⟨y3, r⟩⟩⟩
    ·simp at hvl; omega
    ·simp at hvl; omega
    ·exact ⟨y1, y2, rfl⟩
    ·simp at hvl; omega
   rw [c2']
   by_cases hroom : ks.length + 1 ≤ c
   ·have h1 := rep_shift n0 w0 W us g c vb c2 i ks.length tail vtail y1 y2 hul.symm hr hr2' hlt hroom hne hB (by omega)
    exact h1.mono fun e w' hh => hend e w' hh
   ·have h1 := rep_grow n0 w0 W us g c vb c2 i ks.length tail vtail y1 y2 hul.symm hr hr2' hlt (by omega) hB (by omega) hb
    exact h1.mono fun e w' hh => hend e w' hh
end Go.Proofs.Ytfjcfklgnlmjjaa.PB
