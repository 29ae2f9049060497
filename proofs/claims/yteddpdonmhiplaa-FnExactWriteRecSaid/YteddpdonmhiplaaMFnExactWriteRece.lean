-- Made by this session's programs out of the translation and of its own texts.
import Derived.Test.YteddpdonmhiplaaMFnExactWriteRecd
namespace Go.Proofs.Yteddpdonmhiplaa.PR
open Go.RowKit Go.Proofs.YteddpdonmhiplaaW.PrintWords Go.Proofs.YteddpdonmhiplaaW.PrintLast Go.Proofs.YteddpdonmhiplaaW.PrintMore
attribute [local go_sem] max2_int min2_int max_two min_two max_three min_three max_four min_four   -- for this text's walks alone
set_option linter.unusedVariables false
set_option linter.unusedSimpArgs false

/-! ### L_copy: a text by hand -/
-- import Derived.Laws.CopyOwn
theorem step_copy_at {P : Program} {ops : Array Oper} {o : Oper} {a : Act} {w : World} {K : Act → World → Prop} {Q : Exit → Act → World → Prop} {E : Prop} (hgd : o.guard = none) (d s : Operand) (dT sT : TypeId)
  (ho : o.op = .call { callee := .builtin .copy, args := #[d, s], argTypes := #[dT, sT] }) (elem : TypeId) (hu : P.underlying dT = some (.slice elem)) (hsz : (P.info? elem).map (·.size) = some 1)
  (g off dLen dCap : Nat) (ad : Addr) (sLen sCap : Nat) (hd : a.eval d = .slice (some ⟨g, off, none⟩) dLen dCap) (hs : a.eval s = .slice (some ad) sLen sCap)
  (cur : List Value) (t : TypeId) (hg : w.heap[g]? = some (.cells cur.toArray t (0, 0))) (cs : List Value) (hn : cs.length = Nat.min sLen dLen)
  (hsrc : ∀ j v, cs[j]? = some v → w.cell? (ad.add j) = some v) (hfit : off + cs.length ≤ cur.length) (h1 : ∀ v ∈ cs, v.oneCell' = true)
  (h : ∀ w', w' = w.setRow g (cur.take off ++ (cs ++ cur.drop (off + cs.length))).toArray → K (a.put o.dst (goInt cs.length)) w') :
  if Region.wanted o (yielded ops a.tmps) = true then Oper.wp P o a w K Q else E := by
 have hw : Region.wanted o (yielded ops a.tmps) = true := by simp [Region.wanted, hgd]
 rw [if_pos hw]
 have hrun := run_copy_row (P := P) w dT sT o.type elem g off dLen dCap ad sLen sCap cur.toArray t cs hu hsz hg hn hsrc (by simpa using hfit) h1
 unfold Oper.wp
 simp [execOp, ho, resolve, invoke, builtin, hd, hs, hrun, Result.andThen]
 exact h _ (by simp)
theorem ovr_cells (l : List Int) (s : Int) (d : List Int) (tail : List Value) (h : (s * 64).toNat + d.length ≤ l.length) :
  (l.map (Value.int .u8) ++ tail).take (s * 64).toNat ++ (d.map (Value.int .u8) ++ (l.map (Value.int .u8) ++ tail).drop ((s * 64).toNat + (d.map (Value.int .u8)).length)) = (ovr l s d).map (Value.int .u8) ++ tail := by
 unfold ovr
 rw [List.length_map, List.take_append_of_le_length (by simp; omega), List.drop_append_of_le_length (by simp; omega)]
 simp [List.map_take, List.map_drop]
theorem blk_new3 (w : World) (a b c : Obj) : (((w.alloc a).alloc b).alloc c).heap[w.heap.size + 1 + 1]? = some c := by
 have h := blk_new ((w.alloc a).alloc b) c
 rw [show ((w.alloc a).alloc b).heap.size = w.heap.size + 1 + 1 from by simp] at h
 exact h

/-! ### impl_Disk_clone: a text by hand -/
-- import Derived.Deep.RegionLaw
set_option maxHeartbeats 4000000 in
set_option maxRecDepth 100000 in
theorem impl_Disk_clone.calls (A0 : Option Addr) (c0 : Nat) (l0 : List Int) (A1 : Option Addr) (c1 : Nat) (l1 : List S79) (a2 : Int) (a3 : Bool) (w : World) (hr0 : Kd.C (Kd.int .u8) w A0 l0.length l0) (hc0 : l0.length ≤ c0) (hr1 : Kd.C k79 w A1 l1.length l1) (hc1 : l1.length ≤ c1) (h0 : l0.length ≤ 1048576) (hok : okPendS l1) :
  Calls Try.prog 56 #[.agg #[.slice A0 l0.length c0, .slice A1 l1.length c1, .int .i64 a2, .bool a3]] w fun e w' => ∃ v0_ v1_ : Value, e = .returned (.agg #[v0_, v1_, .int .i64 a2, .bool a3]) ∧ Kd.R (Kd.int .u8) 5 w' w.heap.size (fun _ => True) v0_ l0 ∧ Kd.S k79 79 w' w.heap.size (fun k_ => some k_ ≠ (v0_ : Value).ownBlock) v1_ l1 ∧ Below w.heap.size w w' := by
 have HR0 := Aside0.mk hr0
 have HC0 := Aside0.mk hc0
 have HR1 := Aside0.mk hr1
 have HC1 := Aside0.mk hc1
 have HL := Aside0.mk h0
 have HOK := Aside0.mk hok
 clear hr0 hc0 hr1 hc1 h0 hok
 have hu25 := Try.underlying25
 have hu79 := Try.underlying79
 have HB := Aside0.mk (Below.refl w.heap.size w)
 go_enter Try.func56, Try.ntmps56
 go_wp2_with (first | ((with_reducible refine gate_builtin (b := .append) (xs := #[.tmp 12, .tmp 14]) rfl ?_); at_builtin; refine Kd.R_append_rows (Kd.int .u8) (w0 := w) w.heap.size rfl (.tmp 12) (.tmp 14) 22 5 (.int .u8 0) 1 rfl Try.underlying22 info5 rfl (by decide) (by omega) (.slice none 0 0) [] l0 _ _ _ (fun _ => True) (fun _ => False) rfl rfl (Kd.R_nil _ _ _ _ _) (Kd.C_alloc (Kd.C_alloc (Kd.C_alloc HR0.out _) _) _) (fun _ _ h => h) (fun _ h => h.elim) (fun _ _ => trivial) (below_alloc (below_alloc (below_alloc HB.out _) _) _) (by simp; omega) (by have := HL.out; simp; omega) ?_; intro v w2 ho hb hg hat; rw [List.nil_append] at ho; have N_K1 := Aside0.mk (blk_grown (blk_alloc (blk_alloc (blk_new w _) _) _) hg (by simp [Value.ownBlock])); have N_K2 := Aside0.mk (blk_grown (blk_alloc (blk_new2 w _ _) _) hg (by simp [Value.ownBlock])); have N_K3 := Aside0.mk (blk_grown (blk_new3 w _ _ _) hg (by simp [Value.ownBlock])); obtain ⟨DA, dc, rfl⟩ := Kd.R_slice ho; have HO := Aside0.mk ho; have HB2 := Aside0.mk hb; clear ho hb hg hat; obtain ⟨z0, z1, z2, z3, y0, y1, y2, y3⟩ := blk_cells4 N_K1.out; obtain ⟨x0, x1, x2, x3, u0, u1, u2, u3⟩ := blk_cells4 N_K3.out; have yl := blk_lt N_K1.out; have ul := blk_lt N_K3.out))
 go_loopg [5, 20] l1.length (fun kq v5 v20 w' => ∃ (i : Nat) (v1 : Value), v20 = .int .i64 i ∧ Aside0 (i ≤ l1.length ∧ kq = l1.length - i) ∧ Aside0 (w'.heap[w.heap.size + 1]? = some (.cells #[.slice none 0 0, .slice none 0 0, .int .i64 0, .bool false] 25 (0, 0))) ∧ Aside0 (w'.heap[w.heap.size + 1 + 1]? = some (.cells #[.slice DA l0.length dc, v1, .int .i64 a2, .bool a3] 25 (0, 0))) ∧ Aside0 (Kd.R (Kd.int .u8) 5 w' w.heap.size (fun _ => True) (.slice DA l0.length dc) l0) ∧ Aside0 (Kd.S k79 79 w' w.heap.size (fun k_ => some k_ ≠ (.slice DA l0.length dc : Value).ownBlock) v1 (l1.take i)) ∧ Aside0 (Below w.heap.size w w'))
 case atStart =>
  refine ⟨0, .slice none 0 0, rfl, ⟨by omega, rfl⟩, ⟨blk_far N_K2.out (by simp) _⟩, ⟨blk_put N_K3.out 0 _ rfl⟩, ⟨?_⟩, ⟨Kd.S_nil _ _ _ _ _⟩, ⟨below_setB HB2.out (by omega) _ _⟩⟩
  exact Kd.R_mono (Kd.R_far (p := ⟨w.heap.size + 1 + 1, 0, none⟩) (Kd.R_types HO.out N_K3.out (by decide)) (fun _ hk => hk.2) _) (fun _ _ => trivial)
 case round =>
  clear z0 z1 z2 z3 y0 y1 y2 y3 yl x0 x1 x2 x3 u0 u1 u2 u3 ul N_K1 N_K2 N_K3 HO HB HB2
  obtain ⟨i, v1, rfl, HI, K2, K3, HRo, HSo, HB⟩ := hrel
  obtain ⟨B1, b1, ev1⟩ := Kd.S_slice HSo.out
  generalize hn1 : (l1.take i).length = n1 at ev1
  have HN1 := Aside0.mk hn1
  clear hn1
  subst ev1
  obtain ⟨x0, x1, x2, x3, u0, u1, u2, u3⟩ := blk_cells4 K3.out
  have ul := blk_lt K3.out
  have hil : l1.length ≤ 1048576 := HOK.out.1
  by_cases ci : (i : Int) < (l1.length : Int)
  ·obtain ⟨ad, A1', c1', e_, hx0, hx1, hl, hC⟩ := at_T79 (Kd.C_below HR1.out HB.out) (i : Int) (by omega) (by omega)
   cases e_
   rw [Int.toNat_natCast] at hx0 hx1
   have hp : l1.take (i + 1) = l1.take i ++ [rd_T79 l1 (i : Int)] := by
    unfold rd_T79
    rw [List.take_succ_eq_append_getElem (by omega), Int.toNat_natCast, List.getD_eq_getElem?_getD, List.getElem?_eq_getElem (by omega)]
    rfl
   have hm : (rd_T79 l1 (i : Int)).f1.length ≤ 1048576 := HOK.out.2 _ (by unfold rd_T79; rw [Int.toNat_natCast, List.getD_eq_getElem?_getD, List.getElem?_eq_getElem (by omega)]; exact List.getElem_mem _)
   have HP := Aside0.mk hp
   have HM := Aside0.mk hm
   have HC := Aside0.mk hC
   have HLp := Aside0.mk hl
   clear hp hm hC hl
   generalize rd_T79 l1 (i : Int) = p at *
   go_wp2_with fail
   have N_K2 := Aside0.mk (blk_alloc K2.out (.cells #[.int .i64 p.f0, .slice A1' p.f1.length c1'] 79))
   have N_K3 := Aside0.mk (blk_alloc K3.out (.cells #[.int .i64 p.f0, .slice A1' p.f1.length c1'] 79))
   have N_HB := Aside0.mk (below_alloc HB.out (.cells #[.int .i64 p.f0, .slice A1' p.f1.length c1'] 79))
   have N_HC := Aside0.mk (Kd.C_alloc HC.out (.cells #[.int .i64 p.f0, .slice A1' p.f1.length c1'] 79))
   have N_HR := Aside0.mk (Kd.R_alloc HRo.out (.cells #[.int .i64 p.f0, .slice A1' p.f1.length c1'] 79))
   have N_HS := Aside0.mk (Kd.S_bound (Kd.S_alloc HSo.out (.cells #[.int .i64 p.f0, .slice A1' p.f1.length c1'] 79)))
   have KP := Aside0.mk (blk_new wr (.cells #[.int .i64 p.f0, .slice A1' p.f1.length c1'] 79))
   clear K2 K3 HB HC HRo HSo x0 x1 x2 x3 u0 u1 u2 u3 ul hx0 hx1
   generalize hww : wr.alloc (.cells #[.int .i64 p.f0, .slice A1' p.f1.length c1'] 79) = ww at *
   have HWW := Aside0.mk hww
   clear hww
   generalize wr.heap.size = bp at *
   obtain ⟨x0, x1, x2, x3, u0, u1, u2, u3⟩ := blk_cells4 N_K3.out
   have ul := blk_lt N_K3.out
   have pl := blk_lt KP.out
   have pz0 : ww.cell? ⟨bp, 0, none⟩ = some (.int .i64 p.f0) := (blk_cell KP.out 0).trans rfl
   have pz1 : ww.cell? ⟨bp, 1, none⟩ = some (.slice A1' p.f1.length c1') := (blk_cell KP.out 1).trans rfl
   go_region_law (first
    | (refine Kd.R_append_rows_step (Kd.int .u8) (w0 := ww.drew) (W := ww.drew) ww.drew.heap.size (by rfl) (.const (.slice none 0 0)) (.tmp 29) 22 5 (.int .u8 0) 1 rfl Try.underlying22 info5 rfl (by decide) (by omega) (.slice none 0 0) [] p.f1 _ _ _ (fun _ => True) (fun _ => False) rfl rfl (Kd.R_nil _ _ _ _ _) (Kd.C_drew N_HC.out) (fun _ _ h => h) (fun _ h => h.elim) (fun _ _ => trivial) (Below.refl _ _) (Nat.le_refl _) (by have := HM.out; simp; omega) ?_
       intro v30 w3 ho hb hg hat
       rw [List.nil_append] at ho
       obtain ⟨EA, ec, ev30⟩ := Kd.R_slice ho
       subst ev30
       have HE := Aside0.mk ho
       have HB3 := Aside0.mk hb
       clear ho hb hg hat
       have K3d := Aside0.mk (blk_below (blk_drew N_K3.out) HB3.out)
       have KPd := Aside0.mk (blk_below (blk_drew KP.out) HB3.out)
       clear x0 x1 x2 x3 u0 u1 u2 u3 ul pl pz0 pz1
       obtain ⟨x0, x1, x2, x3, u0, u1, u2, u3⟩ := blk_cells4 K3d.out
       have ul := blk_lt K3d.out
       have pl := blk_lt KPd.out
       have pz0 : w3.cell? ⟨bp, 0, none⟩ = some (.int .i64 p.f0) := (blk_cell KPd.out 0).trans rfl
       have pz1 : w3.cell? ⟨bp, 1, none⟩ = some (.slice A1' p.f1.length c1') := (blk_cell KPd.out 1).trans rfl)
    | (have hle : w.heap.size ≤ ww.drew.heap.size := N_HB.out.size
       have HR3 := Aside0.mk (Kd.R_below (Kd.R_drew N_HR.out) HB3.out)
       have HS3 := Aside0.mk (Kd.S_below (Kd.S_drew N_HS.out) HB3.out)
       have HBB := Aside0.mk (below_step (below_drew N_HB.out) HB3.out)
       have hE0 := Kd.R_base HE.out
       have hD0 := Kd.R_lt N_HR.out
       have hS0 := Kd.S_lt N_HS.out
       have dE := Aside0.mk hE0
       have dD := Aside0.mk hD0
       have dS := Aside0.mk hS0
       clear hE0 hD0 hS0
       refine Kd.S_append_step k79 (w0 := w) (W := w3) w.heap.size (by rfl) (.tmp 25) (.tmp 32) 23 79 (.agg #[(.int .i64 0), (.slice none 0 0)]) 32 rfl Try.underlying23 info79 rfl (by decide) (by omega) (.slice B1 n1 b1) (l1.take i) p [.int .i64 p.f0, .slice EA p.f1.length ec] (fun k_ => some k_ ≠ (.slice DA l0.length dc : Value).ownBlock) (fun k_ => some k_ = (.slice EA p.f1.length ec : Value).ownBlock) rfl rfl ?aP ?aK ?aF ?aO ?aB ?aS ?aL ?_
       case aP => exact k79_mkM _ _ _ p (Kd.R_tight rfl (Kd.R_lower HE.out hle))
       case aK => exact fun k hk => ⟨fun he => by have h1 := dE.out k hk.symm; have h2 := dD.out k he.symm; exact absurd h2 (Nat.not_lt.2 h1), fun he => by have h1 := dE.out k hk.symm; have h2 := dS.out k he.symm; exact absurd h2 (Nat.not_lt.2 h1)⟩
       case aF => exact fun k hk => Kd.fresh' (Kd.R_lt HR3.out) k hk
       case aO => exact Kd.S_mono HS3.out (fun k hk => ⟨hk.1, fun he => by have h1 := dE.out k he.symm; exact absurd hk.2.2.1 (Nat.not_lt.2 h1)⟩)
       case aB => exact HBB.out
       case aS => exact HBB.out.size
       case aL => (have := HN1.out; simp only [List.length_take]; omega)
       intro v33 w5 ho hb hg hat
       have HS5 := Aside0.mk ho
       have HB5 := Aside0.mk hb
       have HR5 := Aside0.mk (Kd.R_over' HR3.out (Kd.S_typed HS3.out) (by decide) hg)
       have K3e := Aside0.mk (blk_grown K3d.out hg (Kd.S_ne HS3.out K3d.out (by decide)))
       have K2d := blk_below (blk_drew N_K2.out) HB3.out
       have K2e := Aside0.mk (blk_grown K2d hg (Kd.S_ne HS3.out K2d (by decide)))
       clear ho hb hg hat K2d
       obtain ⟨GA, gc, ev33⟩ := Kd.S_slice HS5.out
       generalize hn5 : (l1.take i ++ [p]).length = n5 at ev33
       have HN5 := Aside0.mk hn5
       clear hn5
       subst ev33
       clear x0 x1 x2 x3 u0 u1 u2 u3 ul pl pz0 pz1
       obtain ⟨x0, x1, x2, x3, u0, u1, u2, u3⟩ := blk_cells4 K3e.out
       have ul := blk_lt K3e.out))
   all_goals
    go_wp2_with fail
    go_roundg (l1.length - (i + 1))
    case measure => have := HI.out; omega
    case rel =>
      refine ⟨i + 1, .slice GA n5 gc, by first | rfl | simp, ⟨by omega, rfl⟩, ⟨blk_far K2e.out (by simp) _⟩, ⟨blk_put K3e.out 1 _ rfl⟩, ⟨?_⟩, ⟨?_⟩, ⟨below_setB HB5.out (by omega) _ _⟩⟩
      · exact Kd.R_mono (Kd.R_far (p := ⟨w.heap.size + 1 + 1, 1, none⟩) (Kd.R_types HR5.out K3e.out (by decide)) (fun _ hk => hk.2) _) (fun _ _ => trivial)
      · rw [HP.out]
        exact Kd.S_mono (Kd.S_far (p := ⟨w.heap.size + 1 + 1, 1, none⟩) (Kd.S_types HS5.out K3e.out (by decide)) (fun _ hk => hk.2) _) (fun _ hk => hk.1)
  ·have hi : i = l1.length := by have := HI.out; omega
   subst hi
   obtain ⟨z0, z1, z2, z3, y0, y1, y2, y3⟩ := blk_cells4 K2.out
   have yl := blk_lt K2.out
   go_wp2_with fail
   rw [List.take_length] at HSo
   refine bodyPost_ret (results_cell_row rfl _ _ (w.heap.size + 1) 25 #[.slice DA l0.length dc, .slice B1 n1 b1, .int .i64 a2, .bool a3] (0, 0) _ rfl (blk_set4 K2.out) Try.underlying25 rfl (by kernel_rfl)) rfl ⟨_, _, rfl, ?_, ?_, ?_⟩
   ·exact Kd.R_mono (Kd.R_far (p := ⟨w.heap.size + 1, 3, none⟩) (Kd.R_far (p := ⟨w.heap.size + 1, 2, none⟩) (Kd.R_far (p := ⟨w.heap.size + 1, 1, none⟩) (Kd.R_far (p := ⟨w.heap.size + 1, 0, none⟩) (Kd.R_types HRo.out K2.out (by decide)) (fun _ hk => hk.2) _) (fun _ hk => hk.2) _) (fun _ hk => hk.2) _) (fun _ hk => hk.2) _) (fun _ _ => trivial)
   ·exact Kd.S_mono (Kd.S_far (p := ⟨w.heap.size + 1, 3, none⟩) (Kd.S_far (p := ⟨w.heap.size + 1, 2, none⟩) (Kd.S_far (p := ⟨w.heap.size + 1, 1, none⟩) (Kd.S_far (p := ⟨w.heap.size + 1, 0, none⟩) (Kd.S_types HSo.out K2.out (by decide)) (fun _ hk => hk.2) _) (fun _ hk => hk.2) _) (fun _ hk => hk.2) _) (fun _ hk => hk.2) _) (fun _ hk => hk.1)
   ·exact below_setB (below_setB (below_setB (below_setB HB.out (by omega) _ _) (by omega) _ _) (by omega) _ _) (by omega) _ _

/-! ### impl_Disk_powered: a text by hand -/
-- import Derived.Recover
-- import Derived.Defers
def lostP : PanicEntry := { v := .iface 125 (.agg #[]), recovered := false }
set_option maxRecDepth 100000 in
theorem ne_lost (W : World) : (binOp .neq 20 (.iface 125 (.agg #[])) (.iface 125 (.agg #[]))).run Try.prog W = .ok (.bool false) W := by
 rfl
set_option maxRecDepth 100000 in
theorem pow_catch (b : Nat) (v0 v1 : Value) (f : Int) (d : Bool) (w : World) (K : w.heap[b]? = some (.cells #[v0, v1, .int .i64 f, .bool d] 25 (0, 0))) :
  CallsD Try.prog 106 #[.pointer (some ⟨b, 0, none⟩)] (.panicking [{ v := .iface 125 (.agg #[]), recovered := false }]) w fun e u' w' =>
   e = .returned (.tuple #[]) ∧ u' = .panicking [{ v := .iface 125 (.agg #[]), recovered := true }] ∧ w' = w.setCell ⟨b, 3, none⟩ (.bool true) := by
 obtain ⟨z0, z1, z2, z3, y0, y1, y2, y3⟩ := blk_cells4 K
 have hu25 := Try.underlying25
 refine callsD_of_wpS Try.func106 rfl fun c₀ cs hu => ?_
 apply wpS_seq
 apply wpS_region
 simp [wpOpsS, go_sem, recoverD, hu, Try.ntmps106, Exit.thenS]
 refine wpS_of_wp ?_
 simp only [List.size_toArray, List.length_cons, List.length_nil, Array.replicate_succ, Array.replicate_zero, List.push_toArray, List.append_toArray, List.nil_append, List.cons_append, List.setIfInBounds_toArray, List.set_cons_zero, List.set_cons_succ]
 clear hu
 have hne := ne_lost
 have yl := blk_lt K
 clear K
 go_wp2_with fail
 simp [bodyPostS, results, Try.results106]
set_option maxRecDepth 100000 in
theorem pow_idle (b : Nat) (w : World) :
  CallsD Try.prog 106 #[.pointer (some ⟨b, 0, none⟩)] .returning w fun e u' w' =>
   e = .returned (.tuple #[]) ∧ u' = .returning ∧ w' = w := by
 refine callsD_of_wpS Try.func106 rfl fun c₀ cs hu => ?_
 apply wpS_seq
 apply wpS_region
 simp [wpOpsS, go_sem, recoverD, hu, Try.ntmps106, Exit.thenS]
 refine wpS_of_wp ?_
 simp only [List.size_toArray, List.length_cons, List.length_nil, Array.replicate_succ, Array.replicate_zero, List.push_toArray, List.append_toArray, List.nil_append, List.cons_append, List.setIfInBounds_toArray, List.set_cons_zero, List.set_cons_succ]
 go_wp2_with fail
 cases c₀
 simp_all [bodyPostS, results, Try.results106]

/-! ### impl_Disk_powered1: a text by hand -/
-- import Derived.Recover
-- import Derived.Defers
set_option maxRecDepth 100000 in
theorem pow1_dies (b bf g : Nat) (cap : Array Value) (w : World) (X : World → Prop) (hcf : ∀ (args : Array Value) (W : World), (callFunc g args).run Try.prog W = .ok (.enter g args) W) (hf : w.cell? ⟨bf, 0, none⟩ = some (.func (.func g) #[] cap))
  (HC : Calls Try.prog g (#[.pointer (some ⟨b, 0, none⟩)] ++ cap) w fun e w' => e = .panicked [{ v := .iface 125 (.agg #[]), recovered := false }] ∧ X w')
  (hX : ∀ w', X w' → ∃ v0 v1 f d, w'.heap[b]? = some (.cells #[v0, v1, .int .i64 f, .bool d] 25 (0, 0))) :
  Calls Try.prog 105 #[.pointer (some ⟨b, 0, none⟩), .pointer (some ⟨bf, 0, none⟩)] w fun e w' => e = .returned (.tuple #[]) ∧ ∃ w1, X w1 ∧ w' = w1.setCell ⟨b, 3, none⟩ (.bool true) := by
 have hmf : ∀ (fn : Fn) (first cap : Array Value) (w : World), (Instr.makeFunc fn first cap).run Try.prog w = .ok (.func fn first cap) w := fun _ _ _ _ => rfl
 go_enter_defers Try.func105, Try.ntmps105
 go_wp2_with fail
 refine HC.mono ?_
 rintro e w1 ⟨rfl, hx⟩
 obtain ⟨v0, v1, f, d, hb⟩ := hX w1 hx
 go_wp2_with fail
 refine leaves_cons (f := 106) (args := #[.pointer (some ⟨b, 0, none⟩)]) (by simp) (by simp [go_sem]) ?_
 refine (pow_catch b v0 v1 f d w1 hb).mono ?_
 rintro e u' w2 ⟨rfl, rfl, rfl⟩
 simp [Leaves, settle, results, Try.results105, go_sem]
 exact ⟨w1, hx, rfl⟩
set_option maxRecDepth 100000 in
theorem pow1_lives (b bf g : Nat) (cap : Array Value) (w : World) (X : World → Prop) (hcf : ∀ (args : Array Value) (W : World), (callFunc g args).run Try.prog W = .ok (.enter g args) W) (hf : w.cell? ⟨bf, 0, none⟩ = some (.func (.func g) #[] cap))
  (HC : Calls Try.prog g (#[.pointer (some ⟨b, 0, none⟩)] ++ cap) w fun e w' => e = .returned (.tuple #[]) ∧ X w') :
  Calls Try.prog 105 #[.pointer (some ⟨b, 0, none⟩), .pointer (some ⟨bf, 0, none⟩)] w fun e w' => e = .returned (.tuple #[]) ∧ X w' := by
 have hmf : ∀ (fn : Fn) (first cap : Array Value) (w : World), (Instr.makeFunc fn first cap).run Try.prog w = .ok (.func fn first cap) w := fun _ _ _ _ => rfl
 go_enter_defers Try.func105, Try.ntmps105
 go_wp2_with fail
 refine HC.mono ?_
 rintro e w1 ⟨rfl, hx⟩
 go_wp2_with fail
 refine leaves_cons (f := 106) (args := #[.pointer (some ⟨b, 0, none⟩)]) (by simp) (by simp [go_sem]) ?_
 refine (pow_idle b w1).mono ?_
 rintro e u' w2 ⟨rfl, rfl, rfl⟩
 simp [Leaves, settle, results, Try.results105, go_sem]
 exact hx

/-! ### impl_Disk_powered2: a text by hand -/
def PowX (lo b : Nat) (W : World) (r1 : List Int) (r2 : List S79) (r3 : Int) (r4 : Bool) (W' : World) : Prop :=
 ∃ (A B : Option Addr) (n c m d : Nat), W'.heap[b]? = some (.cells #[.slice A n c, .slice B m d, .int .i64 r3, .bool r4] 25 (0, 0)) ∧ Kd.R (Kd.int .u8) 5 W' lo (fun _ => True) (.slice A n c) r1 ∧ Kd.S k79 79 W' lo (fun k => some k ≠ (.slice A n c : Value).ownBlock) (.slice B m d) r2 ∧ Below lo W W'
set_option maxHeartbeats 4000000 in
set_option maxRecDepth 100000 in
theorem impl_Disk_powered.calls (g : Nat) (cap : Array Value) (hcf : ∀ (args : Array Value) (W : World), (callFunc g args).run Try.prog W = .ok (.enter g args) W) (A0 : Option Addr) (c0 : Nat) (l0 : List Int) (A1 : Option Addr) (c1 : Nat) (l1 : List S79) (a2 : Int) (a3 : Bool) (w : World) (hr0 : Kd.C (Kd.int .u8) w A0 l0.length l0) (hc0 : l0.length ≤ c0) (hr1 : Kd.C k79 w A1 l1.length l1) (hc1 : l1.length ≤ c1) (h0 : l0.length ≤ 1048576) (hok : okPendS l1)
   (die : Bool) (r1 : List Int) (r2 : List S79) (r3 : Int) (r4 : Bool)
   (HC : ∀ (lo b : Nat) (W : World), w.heap.size ≤ lo → lo ≤ b → Below w.heap.size w W → PowX lo b W l0 l1 a2 a3 W →
     Calls Try.prog g (#[.pointer (some ⟨b, 0, none⟩)] ++ cap) W fun e W' => e = (if die = true then .panicked [{ v := .iface 125 (.agg #[]), recovered := false }] else .returned (.tuple #[])) ∧ PowX lo b W r1 r2 r3 r4 W') :
   Calls Try.prog 57 #[.agg #[.slice A0 l0.length c0, .slice A1 l1.length c1, .int .i64 a2, .bool a3], .func (.func g) #[] cap] w fun e w' => ∃ v0_ v1_ : Value, e = .returned (.agg #[v0_, v1_, .int .i64 r3, .bool (r4 || die)]) ∧ Kd.R (Kd.int .u8) 5 w' w.heap.size (fun _ => True) v0_ r1 ∧ Kd.S k79 79 w' w.heap.size (fun k_ => some k_ ≠ (v0_ : Value).ownBlock) v1_ r2 ∧ Below w.heap.size w w' := by
 have HR0 := Aside0.mk hr0
 have HC0 := Aside0.mk hc0
 have HR1 := Aside0.mk hr1
 have HC1 := Aside0.mk hc1
 have HCB := Aside0.mk HC
 have HCF := Aside0.mk hcf
 have HOK := Aside0.mk hok
 have HL0 := Aside0.mk h0
 clear hr0 hc0 hr1 hc1 HC hcf hok h0
 have hu25 := Try.underlying25
 have hmf : ∀ (fn : Fn) (first cap : Array Value) (w : World), (Instr.makeFunc fn first cap).run Try.prog w = .ok (.func fn first cap) w := fun _ _ _ _ => rfl
 have HB := Aside0.mk (Below.refl w.heap.size w)
 go_enter Try.func57, Try.ntmps57
 go_wp2_with fail
 refine (impl_Disk_clone.calls _ _ l0 _ _ l1 a2 a3 _ (Kd.C_alloc (Kd.C_alloc (Kd.C_alloc HR0.out _) _) _) HC0.out (Kd.C_alloc (Kd.C_alloc (Kd.C_alloc HR1.out _) _) _) HC1.out HL0.out HOK.out).mono ?_
 rintro e w1 ⟨v0, v1, rfl, hR, hS, gb⟩
 obtain ⟨DA, dc, rfl⟩ := Kd.R_slice hR
 obtain ⟨EA, ec, rfl⟩ := Kd.S_slice hS
 have K3 := Aside0.mk (blk_below (blk_alloc (blk_new2 w _ _) _) gb)
 have K4 := Aside0.mk (blk_below (blk_new3 w _ _ _) gb)
 have N_HB := Aside0.mk (below_step (below_alloc (below_alloc (below_alloc HB.out _) _) _) gb)
 clear HB
 have HB := N_HB
 clear N_HB
 simp only [World.size_alloc] at hR hS gb
 have hsz := gb.size
 have k4 := blk_lt K4.out
 have k3 := blk_lt K3.out
 clear gb
 go_wp2_with fail
 have W0 := below_alloc HB.out (.cells #[.slice DA l0.length dc, .slice EA l1.length ec, .int .i64 a2, .bool a3] 25)
 have hX0 : PowX (w.heap.size + 1 + 1 + 1) w1.heap.size (w1.alloc (.cells #[.slice DA l0.length dc, .slice EA l1.length ec, .int .i64 a2, .bool a3] 25)) l0 l1 a2 a3 (w1.alloc (.cells #[.slice DA l0.length dc, .slice EA l1.length ec, .int .i64 a2, .bool a3] 25)) :=
   ⟨DA, EA, _, dc, _, ec, blk_new _ _, Kd.R_alloc hR _, Kd.S_alloc hS _, ⟨rfl, rfl, rfl, Nat.le_refl _, fun _ _ => rfl⟩⟩
 have hC := HCB.out (w.heap.size + 1 + 1 + 1) w1.heap.size _ (by omega) (by have := HB.out.size; simpa using hsz) W0 hX0
 have hcell : (w1.alloc (.cells #[.slice DA l0.length dc, .slice EA l1.length ec, .int .i64 a2, .bool a3] 25)).cell? ⟨w.heap.size + 1, 0, none⟩ = some (.func (.func g) #[] cap) := (blk_cell (blk_alloc K3.out _) 0).trans rfl
 have K4a := Aside0.mk (blk_alloc K4.out (.cells #[.slice DA l0.length dc, .slice EA l1.length ec, .int .i64 a2, .bool a3] 25))
 generalize hW : w1.alloc (.cells #[.slice DA l0.length dc, .slice EA l1.length ec, .int .i64 a2, .bool a3] 25) = W at *
 have HW := Aside0.mk hW
 have HWB := Aside0.mk W0
 clear hW hX0 W0 hR hS K3 K4 k3 k4
 have hb5 : w.heap.size + 1 + 1 + 1 ≤ w1.heap.size := by simpa using hsz
 clear hsz
 generalize w1.heap.size = b5 at *
 cases die with
 | true =>
   refine (pow1_dies b5 (w.heap.size + 1) g cap W (PowX (w.heap.size + 1 + 1 + 1) b5 W r1 r2 r3 r4) HCF.out hcell (by simpa using hC) (fun w' hx => by obtain ⟨A, B, n, c, m, d, hb, _⟩ := hx; exact ⟨_, _, _, _, hb⟩)).mono ?_
   rintro e w3 ⟨rfl, w2, ⟨A, B, n, c, m, d, hb, hR, hS, hbb⟩, rfl⟩
   have K5 := Aside0.mk (blk_put hb 3 (.bool true) rfl)
   have K4c := Aside0.mk (show (w2.setCell ⟨b5, 3, none⟩ (.bool true)).heap[w.heap.size + 1 + 1]? = _ from blk_far ((hbb.block _ (by omega)).trans K4a.out) (by show w.heap.size + 1 + 1 ≠ b5; omega) _)
   have HR5 := Aside0.mk (Kd.R_mono (Kd.R_far (p := ⟨b5, 3, none⟩) (Kd.R_types hR hb (by decide)) (fun _ hk => hk.2) (.bool true)) (ok' := fun _ => True) (fun _ _ => trivial))
   have HS5 := Aside0.mk (Kd.S_mono (Kd.S_far (p := ⟨b5, 3, none⟩) (Kd.S_types hS hb (by decide)) (fun _ hk => hk.2) (.bool true)) (ok' := fun k => some k ≠ (.slice A n c : Value).ownBlock) (fun _ hk => hk.1))
   have HB5 := Aside0.mk (show Below (w.heap.size + 1 + 1 + 1) W (w2.setCell ⟨b5, 3, none⟩ (.bool true)) from hbb.setCell hb5 _)
   clear hb hR hS hbb hcell hC
   generalize w2.setCell ⟨b5, 3, none⟩ (.bool true) = w3 at *
   obtain ⟨z0, z1, z2, z3, y0, y1, y2, y3⟩ := blk_cells4 K5.out
   obtain ⟨x0, x1, x2, x3, u0, u1, u2, u3⟩ := blk_cells4 K4c.out
   have yl := blk_lt K5.out
   have ul := blk_lt K4c.out
   go_wp2_with fail
   refine bodyPost_ret (results_cell_row rfl _ _ (w.heap.size + 1 + 1) 25 #[.slice A n c, .slice B m d, .int .i64 r3, .bool true] (0, 0) _ rfl (blk_set4 K4c.out) Try.underlying25 rfl (by kernel_rfl)) rfl ⟨.slice A n c, .slice B m d, by simp, ?_, ?_, ?_⟩
   · exact Kd.R_lower (R_farB (R_farB (R_farB (R_farB HR5.out (by omega) _ _) (by omega) _ _) (by omega) _ _) (by omega) _ _) (by omega)
   · exact Kd.S_lower (S_farB (S_farB (S_farB (S_farB HS5.out (by omega) _ _) (by omega) _ _) (by omega) _ _) (by omega) _ _) (by omega)
   · exact below_setB (below_setB (below_setB (below_setB (below_weaken HWB.out (by omega) HB5.out) (by omega) _ _) (by omega) _ _) (by omega) _ _) (by omega) _ _
 | false =>
   refine (pow1_lives b5 (w.heap.size + 1) g cap W (PowX (w.heap.size + 1 + 1 + 1) b5 W r1 r2 r3 r4) HCF.out hcell (by simpa using hC)).mono ?_
   rintro e w3 ⟨rfl, A, B, n, c, m, d, hb, hR, hS, hbb⟩
   have K5 := Aside0.mk hb
   have K4c := Aside0.mk ((hbb.block _ (by omega)).trans K4a.out)
   have HR5 := Aside0.mk hR
   have HS5 := Aside0.mk hS
   have HB5 := Aside0.mk hbb
   clear hb hR hS hbb hcell hC
   obtain ⟨z0, z1, z2, z3, y0, y1, y2, y3⟩ := blk_cells4 K5.out
   obtain ⟨x0, x1, x2, x3, u0, u1, u2, u3⟩ := blk_cells4 K4c.out
   have yl := blk_lt K5.out
   have ul := blk_lt K4c.out
   go_wp2_with fail
   refine bodyPost_ret (results_cell_row rfl _ _ (w.heap.size + 1 + 1) 25 #[.slice A n c, .slice B m d, .int .i64 r3, .bool r4] (0, 0) _ rfl (blk_set4 K4c.out) Try.underlying25 rfl (by kernel_rfl)) rfl ⟨.slice A n c, .slice B m d, by simp, ?_, ?_, ?_⟩
   · exact Kd.R_lower (R_farB (R_farB (R_farB (R_farB HR5.out (by omega) _ _) (by omega) _ _) (by omega) _ _) (by omega) _ _) (by omega)
   · exact Kd.S_lower (S_farB (S_farB (S_farB (S_farB HS5.out (by omega) _ _) (by omega) _ _) (by omega) _ _) (by omega) _ _) (by omega)
   · exact below_setB (below_setB (below_setB (below_setB (below_weaken HWB.out (by omega) HB5.out) (by omega) _ _) (by omega) _ _) (by omega) _ _) (by omega) _ _

/-! ### impl_Disk_spend: a text by hand -/
set_option maxRecDepth 100000 in
theorem spend_dies (b : Nat) (v0 v1 : Value) (d : Bool) (w : World) (K : w.heap[b]? = some (.cells #[v0, v1, .int .i64 0, .bool d] 25 (0, 0))) :
  Calls Try.prog 107 #[.pointer (some ⟨b, 0, none⟩)] w fun e w' => e = .panicked [{ v := .iface 125 (.agg #[]), recovered := false }] ∧ w' = w := by
 have hu25 := Try.underlying25
 obtain ⟨z0, z1, z2, z3, y0, y1, y2, y3⟩ := blk_cells4 K
 have yl := blk_lt K
 clear K
 have hpn : ∀ (t : TypeId) (v : Value) (W : World), (Instr.panic (.iface t v)).run Try.prog W = .halt (.panic (.iface t v)) W := fun _ _ _ => rfl
 go_enter Try.func107, Try.ntmps107
 go_wp2_with fail
 exact ⟨rfl, rfl, rfl⟩
set_option maxRecDepth 100000 in
theorem spend_ok (b : Nat) (v0 v1 : Value) (f : Int) (d : Bool) (w : World) (hf : f ≠ 0) (h1 : -1 ≤ f) (h2 : f ≤ 1000000) (K : w.heap[b]? = some (.cells #[v0, v1, .int .i64 f, .bool d] 25 (0, 0))) :
  Calls Try.prog 107 #[.pointer (some ⟨b, 0, none⟩)] w fun e w' => e = .returned (.tuple #[]) ∧ w' = if 0 < f then w.setCell ⟨b, 2, none⟩ (.int .i64 (f - 1)) else w := by
 have hu25 := Try.underlying25
 obtain ⟨z0, z1, z2, z3, y0, y1, y2, y3⟩ := blk_cells4 K
 have yl := blk_lt K
 clear K
 go_enter Try.func107, Try.ntmps107
 have c0 : (f == 0) = false := beq_eq_false_iff_ne.2 hf
 by_cases hp : 0 < f
 ·rw [if_pos hp]
  go_wp2_with fail
  go_end0
  exact ⟨rfl, rfl⟩
 ·rw [if_neg hp]
  go_wp2_with fail
  go_end0
  exact ⟨rfl, rfl⟩

/-! ### impl_Disk_sync: a text by hand -/
-- import Derived.Laws.CopyOwn
-- import Derived.Deep.RegionLaw
def syF (l0 : List Int) (l1 : List S79) : Nat → List Int
 | 0 => l0
 | i + 1 => ovr (syF l0 l1 i) (rd_T79 l1 (i : Int)).f0 (rd_T79 l1 (i : Int)).f1
theorem syF_len (l0 : List Int) (l1 : List S79) (h : ∀ x ∈ l1, 0 ≤ x.f0 ∧ x.f0 < ((l0.length / 64 : Nat) : Int) ∧ x.f1.length = 64) : ∀ i, i ≤ l1.length → (syF l0 l1 i).length = l0.length := by
 intro i
 induction i with
 | zero => intro _; rfl
 | succ i ih =>
   intro hi
   have h1 := ih (by omega)
   have hx := h _ (rdP_mem l1 i (by omega))
   unfold syF
   rw [ovr_len _ _ _ (by rw [h1, hx.2.2]; omega), h1]
def fuelD (f : Int) : Int := if 0 < f then f - 1 else f
set_option maxHeartbeats 4000000 in
set_option maxRecDepth 100000 in
theorem sync_dies (lo b : Nat) (W : World) (l0 : List Int) (l1 : List S79) (a3 : Bool) (h : PowX lo b W l0 l1 0 a3 W) :
  Calls Try.prog 58 #[.pointer (some ⟨b, 0, none⟩)] W fun e W' => e = .panicked [{ v := .iface 125 (.agg #[]), recovered := false }] ∧ PowX lo b W l0 l1 0 a3 W' := by
 obtain ⟨A, B, n, c, m, d, hb, hR, hS, hB⟩ := h
 go_enter Try.func58, Try.ntmps58
 go_wp2_with fail
 refine (spend_dies b _ _ _ _ hb).mono ?_
 rintro e w' ⟨rfl, rfl⟩
 go_wp2_with fail
 exact ⟨rfl, rfl, A, B, n, c, m, d, hb, hR, hS, hB⟩
set_option maxHeartbeats 4000000 in
set_option maxRecDepth 100000 in
theorem sync_lives (lo b : Nat) (W : World) (l0 : List Int) (l1 : List S79) (a2 : Int) (a3 : Bool) (hv : vD l0 l1 a2 = true) (hf : a2 ≠ 0) (hlo : lo ≤ b) (h : PowX lo b W l0 l1 a2 a3 W) :
  Calls Try.prog 58 #[.pointer (some ⟨b, 0, none⟩)] W fun e W' => e = .returned (.tuple #[]) ∧ PowX lo b W (syF l0 l1 l1.length) [] (fuelD a2) a3 W' := by
 have HP := Aside0.mk (vD_facts hv)
 obtain ⟨A, B, n, c, m, d, hb, hR, hS, hB⟩ := h
 have hn := (Kd.R_reads' hR).1
 have hm := (Kd.S_reads' hS).1
 subst hn hm
 obtain ⟨g, c', tail, e_, hlg, _, hcm, hg, hcc⟩ := R_row hR (by have := HP.out.2.1; omega)
 cases e_
 have HLG := Aside0.mk hlg
 have HCM := Aside0.mk hcm
 have HCC := Aside0.mk hcc
 have HG0 := Aside0.mk hg
 have HS0 := Aside0.mk hS
 have HB0 := Aside0.mk hB
 have K0 := Aside0.mk hb
 have HF := Aside0.mk hf
 have hgb : g ≠ b := blk_ne hg hb (by decide)
 clear hR hS hB hb hlg hcm hcc hg hv hf
 have hu25 := Try.underlying25
 have hu79 := Try.underlying79
 go_enter Try.func58, Try.ntmps58
 go_wp2_with fail
 refine (spend_ok b _ _ a2 a3 _ HF.out HP.out.2.2.2.2.1 HP.out.2.2.2.2.2.1 K0.out).mono ?_
 rintro e w1 ⟨rfl, hw1⟩
 have K1 := Aside0.mk (show w1.heap[b]? = some (.cells #[.slice (some ⟨g, 0, none⟩) l0.length c, .slice B l1.length d, .int .i64 (fuelD a2), .bool a3] 25 (0, 0)) by
  rw [hw1]; unfold fuelD; split
  ·exact blk_put K0.out 2 _ rfl
  ·exact K0.out)
 have HG1 := Aside0.mk (show w1.heap[g]? = some (.cells (l0.map (Value.int .u8) ++ tail).toArray 5 (0, 0)) by
  rw [hw1]; split
  ·exact blk_far HG0.out hgb _
  ·exact HG0.out)
 have HS1 := Aside0.mk (show Kd.S k79 79 w1 lo (fun k => some k ≠ (.slice (some ⟨g, 0, none⟩) l0.length c : Value).ownBlock) (.slice B l1.length d) l1 by
  rw [hw1]; split
  ·exact Kd.S_mono (Kd.S_far (p := ⟨b, 2, none⟩) (Kd.S_types HS0.out K0.out (by decide)) (fun _ hk => hk.2) _) (fun _ hk => hk.1)
  ·exact HS0.out)
 have HB1 := Aside0.mk (show Below lo W w1 by
  rw [hw1]; split
  ·exact HB0.out.setCell hlo _
  ·exact HB0.out)
 clear K0 HG0 HS0 HB0 hw1
 obtain ⟨z0, z1, z2, z3, y0, y1, y2, y3⟩ := blk_cells4 K1.out
 have yl := blk_lt K1.out
 go_wp2_with fail
 go_loopg [11] l1.length (fun kq v11 w' => ∃ (i : Nat), v11 = .int .i64 i ∧ Aside0 (i ≤ l1.length ∧ kq = l1.length - i) ∧ Aside0 (w'.heap[g]? = some (.cells ((syF l0 l1 i).map (Value.int .u8) ++ tail).toArray 5 (0, 0))) ∧ Aside0 (w'.heap[b]? = some (.cells #[.slice (some ⟨g, 0, none⟩) l0.length c, .slice B l1.length d, .int .i64 (fuelD a2), .bool a3] 25 (0, 0))) ∧ Aside0 (Kd.S k79 79 w' lo (fun k => some k ≠ (.slice (some ⟨g, 0, none⟩) l0.length c : Value).ownBlock) (.slice B l1.length d) l1) ∧ Aside0 (Below lo W w'))
 case atStart => exact ⟨0, rfl, ⟨by omega, rfl⟩, ⟨HG1.out⟩, ⟨K1.out⟩, ⟨HS1.out⟩, ⟨HB1.out⟩⟩
 case round =>
  clear z0 z1 z2 z3 y0 y1 y2 y3 yl K1 HG1 HS1 HB1
  obtain ⟨i, rfl, HI, HG, K5, HS, HBr⟩ := hrel
  by_cases ci : (i : Int) < (l1.length : Int)
  ·obtain ⟨ad, A1', c1', e_, hx0, hx1, hl, hC⟩ := at_T79 (Kd.S_reads' HS.out).2.2 (i : Int) (by omega) (by omega)
   subst e_
   rw [Int.toNat_natCast] at hx0 hx1
   have HM := Aside0.mk (HP.out.2.2.2.2.2.2 _ (rdP_mem l1 i (by omega)))
   have HCL := Aside0.mk (syF_len l0 l1 HP.out.2.2.2.2.2.2 i (by omega))
   have HCR := Aside0.mk (show syF l0 l1 (i + 1) = ovr (syF l0 l1 i) (rd_T79 l1 (i : Int)).f0 (rd_T79 l1 (i : Int)).f1 from rfl)
   have HC := Aside0.mk hC
   clear hC hl
   rw [HM.out.2.2] at hx1
   generalize rd_T79 l1 (i : Int) = p at *
   have hil : l1.length ≤ 2000 := HP.out.2.2.2.1
   obtain ⟨z0, z1, z2, z3, y0, y1, y2, y3⟩ := blk_cells4 K5.out
   have yl := blk_lt K5.out
   go_wp2_with fail
   have N_K5 := Aside0.mk (blk_alloc K5.out (.cells #[.int .i64 p.f0, .slice A1' 64 c1'] 79))
   have N_HG := Aside0.mk (blk_alloc HG.out (.cells #[.int .i64 p.f0, .slice A1' 64 c1'] 79))
   have N_HB := Aside0.mk (HBr.out.alloc (by have := blk_lt K5.out; omega) (.cells #[.int .i64 p.f0, .slice A1' 64 c1'] 79))
   have N_HC := Aside0.mk (Kd.C_alloc HC.out (.cells #[.int .i64 p.f0, .slice A1' 64 c1'] 79))
   have N_HS := Aside0.mk (Kd.S_alloc HS.out (.cells #[.int .i64 p.f0, .slice A1' 64 c1'] 79))
   have KP := Aside0.mk (blk_new wr (.cells #[.int .i64 p.f0, .slice A1' 64 c1'] 79))
   clear K5 HG HBr HC HS z0 z1 z2 z3 y0 y1 y2 y3 yl hx0 hx1
   generalize hww : wr.alloc (.cells #[.int .i64 p.f0, .slice A1' 64 c1'] 79) = ww at *
   have HWW := Aside0.mk hww
   clear hww
   obtain ⟨z0, z1, z2, z3, y0, y1, y2, y3⟩ := blk_cells4 N_K5.out
   have yl := blk_lt N_K5.out
   have pz0 : ww.cell? ⟨wr.heap.size, 0, none⟩ = some (.int .i64 p.f0) := (blk_cell KP.out 0).trans rfl
   have pz1 : ww.cell? ⟨wr.heap.size, 1, none⟩ = some (.slice A1' 64 c1') := (blk_cell KP.out 1).trans rfl
   have b0 : 0 ≤ p.f0 := HM.out.1
   have b1 : p.f0 * 64 + 64 ≤ (l0.length : Int) := by have := HM.out.2.1; omega
   have b2 : l0.length ≤ c := by have := HCC.out; omega
   have b3 : l0.length ≤ 65599 := HP.out.2.2.1
   have b4 : ¬ c = (p.f0 * 64).toNat := by omega
   have b5 : IntKind.i64.wrap (p.f0 * 64) = p.f0 * 64 := by rw [i64_w]; unfold wrap64; omega
   have b6 : p.f0 * 64 ≤ (l0.length : Int) := by omega
   have b7 : 0 ≤ p.f0 * 64 := by omega
   obtain ⟨aq, ea, hcs⟩ := C_cells N_HC.out (by rw [HM.out.2.2]; decide)
   have HCS := Aside0.mk hcs
   clear hcs
   subst ea
   have HCL2 := HCL.out
   go_region_law (refine step_copy_at rfl (.tmp 22) (.tmp 24) 22 22 rfl 5 Try.underlying22 (by kernel_rfl) g (p.f0 * 64).toNat _ _ aq _ _ (by first | rfl | (simp [Act.eval, Act.put]; done)) (by first | rfl | (simp [Act.eval, Act.put]; done)) ((syF l0 l1 i).map (Value.int .u8) ++ tail) 5 N_HG.out (p.f1.map (Value.int .u8)) ?hn ?hsrc ?hfit ?h1 ?_; (case hn => (rw [List.length_map, HM.out.2.2]; show 64 = min 64 _; omega)); (case hsrc => exact HCS.out); (case hfit => (have := HM.out.2.2; simp; omega)); (case h1 => (simp [Value.oneCell'])); intro w4 hw4; have HW4 := Aside0.mk hw4; clear hw4)
   all_goals go_wp2_with fail
   all_goals
    go_roundg (l1.length - (i + 1))
    case measure => have := HI.out; omega
    case rel =>
     rw [HW4.out, ovr_cells _ _ _ _ (by have := HM.out.2.2; omega), ← HCR.out]
     exact ⟨i + 1, by first | rfl | simp, ⟨by omega, rfl⟩, ⟨setRow_heap _ _ _ _ _ _ N_HG.out⟩, ⟨(setRow_other _ _ _ _ (Ne.symm hgb)).trans N_K5.out⟩, ⟨Kd.S_step (Kd.S_drew N_HS.out) (fun k hk _ => setRow_other _ _ _ _ (fun he => hk (by rw [he]; rfl)))⟩, ⟨below_row N_HB.out.drew HLG.out _⟩⟩
  ·have hi : i = l1.length := by have := HI.out; omega
   subst hi
   obtain ⟨z0, z1, z2, z3, y0, y1, y2, y3⟩ := blk_cells4 K5.out
   have yl := blk_lt K5.out
   go_wp2_with fail
   go_end0
   have hcl := syF_len l0 l1 HP.out.2.2.2.2.2.2 l1.length (Nat.le_refl _)
   have hR := R_of_row (base := lo) (ok := fun k => k ≠ b) (cap := c) HG.out HLG.out hgb HCM.out (by rw [hcl]; exact HCC.out)
   rw [hcl] at hR
   exact ⟨rfl, some ⟨g, 0, none⟩, none, l0.length, c, 0, 0, blk_put K5.out 1 _ rfl, Kd.R_mono (Kd.R_far (p := ⟨b, 1, none⟩) hR (fun k hk => hk) _) (fun _ _ => trivial), Kd.S_nil _ _ _ _ _, HBr.out.setCell hlo _⟩

/-! ### impl_Disk_write: a text by hand -/
-- import Derived.Deep.RegionLaw
set_option maxHeartbeats 4000000 in
set_option maxRecDepth 100000 in
theorem write_dies (lo b : Nat) (W : World) (l0 : List Int) (l1 : List S79) (a3 : Bool) (s : Int) (xs : List Int) (hlo : lo ≤ b) (h : PowX lo b W l0 l1 0 a3 W) :
  Calls Try.prog 117 #[.pointer (some ⟨b, 0, none⟩), .int .i64 s, .agg (xs.map (Value.int .u8)).toArray] W fun e W' => e = .panicked [{ v := .iface 125 (.agg #[]), recovered := false }] ∧ PowX lo b W l0 l1 0 a3 W' := by
 obtain ⟨A, B, n, c, m, d, hb, hR, hS, hB⟩ := h
 have hl := blk_lt hb
 go_enter Try.func117, Try.ntmps117
 go_wp2_with fail
 refine (spend_dies b _ _ _ _ (blk_alloc hb _)).mono ?_
 rintro e w' ⟨rfl, rfl⟩
 go_wp2_with fail
 exact ⟨rfl, rfl, A, B, n, c, m, d, blk_alloc hb _, Kd.R_alloc hR _, Kd.S_alloc hS _, hB.alloc (by omega) _⟩
set_option maxHeartbeats 4000000 in
set_option maxRecDepth 100000 in
theorem write_lives (lo b : Nat) (W : World) (l0 : List Int) (l1 : List S79) (a2 : Int) (a3 : Bool) (s : Int) (xs : List Int) (hx : xs.length = 64) (hv : vD l0 l1 a2 = true) (hf : a2 ≠ 0) (hlo : lo ≤ b) (h : PowX lo b W l0 l1 a2 a3 W) :
  Calls Try.prog 117 #[.pointer (some ⟨b, 0, none⟩), .int .i64 s, .agg (xs.map (Value.int .u8)).toArray] W fun e W' => e = .returned (.tuple #[]) ∧ PowX lo b W l0 (l1 ++ [⟨s, xs⟩]) (fuelD a2) a3 W' := by
 have HP := Aside0.mk (vD_facts hv)
 have HX := Aside0.mk hx
 obtain ⟨A, B, n, c, m, d, hb, hR, hS, hB⟩ := h
 have hn := (Kd.R_reads' hR).1
 have hm := (Kd.S_reads' hS).1
 subst hn hm
 have HR0 := Aside0.mk (Kd.R_bound hR)
 have HS0 := Aside0.mk (Kd.S_bound hS)
 have HB0 := Aside0.mk hB
 have K0 := Aside0.mk hb
 have HF := Aside0.mk hf
 clear hR hS hB hb hv hf hx
 have hu25 := Try.underlying25
 have hu79 := Try.underlying79
 go_enter Try.func117, Try.ntmps117
 go_wp2_with fail
 refine (spend_ok b _ _ a2 a3 _ HF.out HP.out.2.2.2.2.1 HP.out.2.2.2.2.2.1 (blk_alloc K0.out _)).mono ?_
 rintro e w1 ⟨rfl, hw1⟩
 have KB := Aside0.mk (show w1.heap[W.heap.size]? = some (.cells (xs.map (Value.int .u8)).toArray 84 (0, 0)) by
  have hl := blk_lt K0.out
  rw [hw1]; split
  · exact blk_far (blk_new _ _) (show W.heap.size ≠ b by omega) _
  · exact blk_new _ _)
 have K1 := Aside0.mk (show w1.heap[b]? = some (.cells #[.slice A l0.length c, .slice B l1.length d, .int .i64 (fuelD a2), .bool a3] 25 (0, 0)) by
  rw [hw1]; unfold fuelD; split
  · exact blk_put (blk_alloc K0.out _) 2 _ rfl
  · exact blk_alloc K0.out _)
 have HR1 := Aside0.mk (show Kd.R (Kd.int .u8) 5 w1 lo (fun _ => True) (.slice A l0.length c) l0 by
  have hR := Kd.R_alloc HR0.out (.cells (xs.map (Value.int .u8)).toArray 84)
  rw [hw1]; split
  · exact Kd.R_mono (Kd.R_far (p := ⟨b, 2, none⟩) (Kd.R_types hR (blk_alloc K0.out _) (by decide)) (fun _ hk => hk.2) _) (fun _ _ => trivial)
  · exact Kd.R_mono hR (fun _ _ => trivial))
 have HS1 := Aside0.mk (show Kd.S k79 79 w1 lo (fun k => some k ≠ (.slice A l0.length c : Value).ownBlock) (.slice B l1.length d) l1 by
  have hS := Kd.S_alloc HS0.out (.cells (xs.map (Value.int .u8)).toArray 84)
  rw [hw1]; split
  · exact Kd.S_mono (Kd.S_far (p := ⟨b, 2, none⟩) (Kd.S_types hS (blk_alloc K0.out _) (by decide)) (fun _ hk => hk.2) _) (fun _ hk => hk.1.1)
  · exact Kd.S_mono hS (fun _ hk => hk.1))
 have HB1 := Aside0.mk (show Below lo W w1 by
  have hl := blk_lt K0.out
  rw [hw1]; split
  · exact (HB0.out.alloc (by omega) _).setCell hlo _
  · exact HB0.out.alloc (by omega) _)
 clear K0 HR0 HS0 HB0 hw1
 obtain ⟨x0, x1, x2, x3, u0, u1, u2, u3⟩ := blk_cells4 K1.out
 have ul := blk_lt K1.out
 have pl := blk_lt KB.out
 have hbB : lo ≤ w1.heap.size := by omega
 have hm5 : l1.length ≤ 2000 := HP.out.2.2.2.1
 have hC := Aside0.mk (show Kd.C (Kd.int .u8) w1 (some ⟨W.heap.size, 0, none⟩) xs.length xs from (Kd.R_reads' (R_of_row (e := 84) (base := 0) (ok := fun _ => True) (cap := xs.length) (tail := []) (by rw [List.append_nil]; exact KB.out) (Nat.zero_le _) trivial (by rw [HX.out]; decide) (by simp))).2.2)
 generalize W.heap.size = bp at *
 go_wp2_with fail
 go_region_law (first
  | (refine Kd.R_append_rows_step (Kd.int .u8) (w0 := w1.drew) (W := w1.drew) w1.drew.heap.size (by rfl) (.const (.slice none 0 0)) (.tmp 14) 22 5 (.int .u8 0) 1 rfl Try.underlying22 info5 rfl (by decide) (by omega) (.slice none 0 0) [] xs _ _ _ (fun _ => True) (fun _ => False) rfl (by rw [HX.out]; rfl) (Kd.R_nil _ _ _ _ _) (Kd.C_drew hC.out) (fun _ _ h => h) (fun _ h => h.elim) (fun _ _ => trivial) (Below.refl _ _) (Nat.le_refl _) (by have := HX.out; simp; omega) ?_
     intro v30 w3 ho hb hg hat
     rw [List.nil_append] at ho
     obtain ⟨EA, ec, ev30⟩ := Kd.R_slice ho
     subst ev30
     have HE := Aside0.mk ho
     have HB3 := Aside0.mk hb
     clear ho hb hg hat
     have K3d := Aside0.mk (blk_below (blk_drew K1.out) HB3.out)
     clear x0 x1 x2 x3 u0 u1 u2 u3 ul pl
     obtain ⟨x0, x1, x2, x3, u0, u1, u2, u3⟩ := blk_cells4 K3d.out
     have ul := blk_lt K3d.out)
  | (have hle : lo ≤ w1.drew.heap.size := hbB
     have HR3 := Aside0.mk (Kd.R_below (Kd.R_drew HR1.out) HB3.out)
     have HS3 := Aside0.mk (Kd.S_below (Kd.S_drew (Kd.S_bound HS1.out)) HB3.out)
     have HBB := Aside0.mk (below_then (below_drew HB1.out) hle HB3.out)
     have hE0 := Kd.R_base HE.out
     have hS0 := Kd.S_lt HS1.out
     have hD0 := Kd.R_lt HR1.out
     have dE := Aside0.mk hE0
     have dD := Aside0.mk hD0
     have dS := Aside0.mk hS0
     clear hE0 hD0 hS0
     refine Kd.S_append_step k79 (w0 := W) (W := w3) lo (by rfl) (.tmp 12) (.tmp 17) 23 79 (.agg #[(.int .i64 0), (.slice none 0 0)]) 32 rfl Try.underlying23 info79 rfl (by decide) (by omega) (.slice B l1.length d) l1 ⟨s, xs⟩ [.int .i64 s, .slice EA xs.length ec] (fun k_ => some k_ ≠ (.slice A l0.length c : Value).ownBlock) (fun k_ => some k_ = (.slice EA xs.length ec : Value).ownBlock) rfl rfl ?aP ?aK ?aF ?aO ?aB ?aS ?aL ?_
     case aP => exact k79_mkM _ _ _ (⟨s, xs⟩ : S79) (Kd.R_tight rfl (Kd.R_lower HE.out hle))
     case aK => exact fun k hk => ⟨fun he => by have h1 := dE.out k hk.symm; have h2 := dD.out k he.symm; exact absurd h2 (Nat.not_lt.2 h1), fun he => by have h1 := dE.out k hk.symm; have h2 := dS.out k he.symm; exact absurd h2 (Nat.not_lt.2 h1)⟩
     case aF => exact fun k hk => Kd.fresh' (Kd.R_lt HR3.out) k hk
     case aO => exact Kd.S_mono HS3.out (fun k hk => ⟨hk.1, fun he => by have h1 := dE.out k he.symm; exact absurd hk.2.2.1 (Nat.not_lt.2 h1)⟩)
     case aB => exact HBB.out
     case aS => exact Nat.le_trans hle HB3.out.size
     case aL => omega
     intro v33 w5 ho hb hg hat
     have HS5 := Aside0.mk ho
     have HB5 := Aside0.mk hb
     have HR5 := Aside0.mk (Kd.R_over' HR3.out (Kd.S_typed HS3.out) (by decide) hg)
     have K3e := Aside0.mk (blk_grown K3d.out hg (Kd.S_ne HS3.out K3d.out (by decide)))
     clear ho hb hg hat
     obtain ⟨GA, gc, ev33⟩ := Kd.S_slice HS5.out
     generalize hn5 : (l1 ++ [(⟨s, xs⟩ : S79)]).length = n5 at ev33
     subst ev33
     clear x0 x1 x2 x3 u0 u1 u2 u3 ul
     obtain ⟨x0, x1, x2, x3, u0, u1, u2, u3⟩ := blk_cells4 K3e.out
     have ul := blk_lt K3e.out))
 all_goals
  go_wp2_with fail
  go_end0
  refine ⟨rfl, A, GA, _, c, _, gc, blk_put K3e.out 1 _ rfl, ?_, ?_, HB5.out.setCell hlo _⟩
  · exact Kd.R_mono (Kd.R_far (p := ⟨b, 1, none⟩) (Kd.R_types HR5.out K3e.out (by decide)) (fun _ hk => hk.2) _) (fun _ _ => trivial)
  · exact Kd.S_mono (Kd.S_far (p := ⟨b, 1, none⟩) (Kd.S_types HS5.out K3e.out (by decide)) (fun _ hk => hk.2) _) (fun _ hk => hk.1)

/-! ### L_still: a text by hand -/
-- import Derived.StillTailTactics
theorem still_val {P : Program} {ops : Array Oper} {w : World} {Q : Act → Prop} {a : Act} {o : Oper} {rest : List Oper} {v : Value} (hg : o.guard = none) (h : (execOp a.eval o).run P w = .ok (.value v) w) (hK : wpStill P ops w Q rest (a.put o.dst v)) : wpStill P ops w Q (o :: rest) a := by
 refine wpStill_step (fun K hk => ?_)
 have hw : Region.wanted o (yielded ops a.tmps) = true := by simp [Region.wanted, hg]
 rw [if_pos hw]
 unfold Oper.still
 rw [h, Oper.stillUpon_value]
 exact hk _ hK

/-! ### impl_Disk_write2: a text by hand -/
theorem powX_drew {lo b : Nat} {W : World} {l0 : List Int} {l1 : List S79} {a2 : Int} {a3 : Bool} (h : PowX lo b W l0 l1 a2 a3 W) : PowX lo b W.drew l0 l1 a2 a3 W.drew := by
 obtain ⟨A, B, n, c, m, d, hb, hR, hS, hB⟩ := h
 exact ⟨A, B, n, c, m, d, hb, Kd.R_drew hR, Kd.S_drew hS, ⟨rfl, rfl, rfl, Nat.le_refl _, fun _ _ => rfl⟩⟩
theorem powX_undrew {lo b : Nat} {W W' : World} {l0 : List Int} {l1 : List S79} {a2 : Int} {a3 : Bool} (h : PowX lo b W.drew l0 l1 a2 a3 W') : PowX lo b W l0 l1 a2 a3 W' := by
 obtain ⟨A, B, n, c, m, d, hb, hR, hS, hB⟩ := h
 exact ⟨A, B, n, c, m, d, hb, hR, hS, ⟨hB.os, hB.tape, hB.output, hB.size, hB.block⟩⟩
set_option maxHeartbeats 4000000 in
set_option maxRecDepth 100000 in
theorem clos_write (b p1 p2 : Nat) (W : World) (s : Int) (A2 : Option Addr) (c2 : Nat) (xs : List Int) (hx : xs.length = 64) (h1 : W.cell? ⟨p1, 0, none⟩ = some (.int .i64 s)) (h2 : W.cell? ⟨p2, 0, none⟩ = some (.slice A2 64 c2)) (hC : Kd.C (Kd.int .u8) W A2 64 xs) (X : World → Prop) (die : Bool)
   (HC : Calls Try.prog 117 #[.pointer (some ⟨b, 0, none⟩), .int .i64 s, .agg (xs.map (Value.int .u8)).toArray] W.drew fun e W' => e = (if die = true then .panicked [{ v := .iface 125 (.agg #[]), recovered := false }] else .returned (.tuple #[])) ∧ X W') :
   Calls Try.prog 116 #[.pointer (some ⟨b, 0, none⟩), .pointer (some ⟨p1, 0, none⟩), .pointer (some ⟨p2, 0, none⟩)] W fun e W' => e = (if die = true then .panicked [{ v := .iface 125 (.agg #[]), recovered := false }] else .returned (.tuple #[])) ∧ X W' := by
 have HX := Aside0.mk hx
 obtain ⟨ad, rfl, hcs⟩ := C_cells hC (by decide)
 have har : ∀ V, (Instr.arrayAt 84 (.slice (some ad) 64 c2)).run Try.prog V = .ok (.pointer (some ad)) V := fun V => arr_at _ 5 64 _ _ _ (by kernel_rfl) (by omega) V
 have hld : (Instr.loadAt 84 (.pointer (some ad))).run Try.prog W.drew = .ok (.agg (xs.map (Value.int .u8)).toArray) W.drew := load_arr W.drew ad _ _ 64 5 hcs (by kernel_rfl) (by rw [List.length_map, hx]; kernel_rfl)
 have HLD := Aside0.mk hld
 have HCC := Aside0.mk HC
 clear hld hcs hC hx HC
 go_enter Try.func116, Try.ntmps116
 go_wp2_with fail
 refine wp_region_still_tail 5 (by kernel_rfl) (by kernel_rfl) ?_
 simp only [List.take_succ_cons, List.take_zero, List.drop_succ_cons, List.drop_zero]
 repeat still_step
 refine still_val rfl (exec_load _ _ rfl rfl HLD.out) ?_
 refine wpStill_nil ?_
 go_wp2_with fail
 refine HCC.out.mono ?_
 cases die with
 | true =>
   rintro e w1 ⟨rfl, hX⟩
   rw [if_pos rfl]
   go_wp2_with fail
   exact ⟨rfl, rfl, hX⟩
 | false =>
   rintro e w1 ⟨rfl, hX⟩
   rw [if_neg (by decide)]
   go_wp2_with fail
   go_end0
   exact ⟨rfl, hX⟩

/-! ### impl_DiskWrite: function 82, proved by hand -/
def dWrite (l0 : List Int) (l1 : List S79) (a2 : Int) (a3 : Bool) (s : Int) (xs : List Int) : List Int × List S79 × Int × Bool :=
 if vD l0 l1 a2 = true ∧ a3 = false ∧ inD l0 s = true ∧ xs.length = 64 ∧ l1.length ≠ 2000 then (if a2 = 0 then (l0, l1, 0, true) else (l0, l1 ++ [⟨s, xs⟩], fuelD a2, a3)) else (l0, l1, a2, a3)
def m_DiskWrite.f (l0 : List Int) (l1 : List S79) (a2 : Int) (a3 : Bool) (s : Int) (xs : List Int) : Option (List Int × List S79 × Int × Bool) :=
 if l0.length ≤ 1048576 ∧ l1.length ≤ 1048576 ∧ l1.all (fun x => decide (x.f1.length ≤ 1048576)) = true then some (dWrite l0 l1 a2 a3 s xs) else none
theorem fin_disk {w w1 w2 : World} {g : Nat} {v0 v1 : Value} {r1 : List Int} {r2 : List S79} {r3 : Int} {r4 : Bool} (hB : Below w.heap.size w w1) (hg : w.heap.size ≤ g) (K : w1.heap[g]? = some (.cells #[.slice none 0 0, .slice none 0 0, .int .i64 0, .bool false] 25 (0, 0)))
  (hR : Kd.R (Kd.int .u8) 5 w2 w1.heap.size (fun _ => True) v0 r1) (hS : Kd.S k79 79 w2 w1.heap.size (fun k_ => some k_ ≠ (v0 : Value).ownBlock) v1 r2) (hb : Below w1.heap.size w1 w2) :
  w2.heap[g]? = some (.cells #[.slice none 0 0, .slice none 0 0, .int .i64 0, .bool false] 25 (0, 0)) ∧ ((((w2.setCell ⟨g, 0, none⟩ v0).setCell ⟨g, 1, none⟩ v1).setCell ⟨g, 2, none⟩ (.int .i64 r3)).setCell ⟨g, 3, none⟩ (.bool r4)).heap[g]? = some (.cells #[v0, v1, .int .i64 r3, .bool r4] 25 (0, 0)) ∧
  Kd.R (Kd.int .u8) 5 ((((w2.setCell ⟨g, 0, none⟩ v0).setCell ⟨g, 1, none⟩ v1).setCell ⟨g, 2, none⟩ (.int .i64 r3)).setCell ⟨g, 3, none⟩ (.bool r4)) w.heap.size (fun _ => True) v0 r1 ∧ Kd.S k79 79 ((((w2.setCell ⟨g, 0, none⟩ v0).setCell ⟨g, 1, none⟩ v1).setCell ⟨g, 2, none⟩ (.int .i64 r3)).setCell ⟨g, 3, none⟩ (.bool r4)) w.heap.size (fun k_ => some k_ ≠ (v0 : Value).ownBlock) v1 r2 ∧ Below w.heap.size w ((((w2.setCell ⟨g, 0, none⟩ v0).setCell ⟨g, 1, none⟩ v1).setCell ⟨g, 2, none⟩ (.int .i64 r3)).setCell ⟨g, 3, none⟩ (.bool r4)) := by
 have hl := blk_lt K
 have hs := hB.size
 refine ⟨blk_below K hb, blk_set4 (blk_below K hb), ?_, ?_, ?_⟩
 ·exact Kd.R_lower (R_farB (R_farB (R_farB (R_farB hR (by omega) _ _) (by omega) _ _) (by omega) _ _) (by omega) _ _) (by omega)
 ·exact Kd.S_lower (S_farB (S_farB (S_farB (S_farB hS (by omega) _ _) (by omega) _ _) (by omega) _ _) (by omega) _ _) (by omega)
 ·exact below_setB (below_setB (below_setB (below_setB (below_step hB hb) (by omega) _ _) (by omega) _ _) (by omega) _ _) (by omega) _ _
set_option maxHeartbeats 4000000 in
set_option maxRecDepth 100000 in
theorem impl_DiskWrite.calls (A0 : Option Addr) (c0 : Nat) (l0 : List Int) (A1 : Option Addr) (c1 : Nat) (l1 : List S79) (a2 : Int) (a3 : Bool) (s : Int) (A2 : Option Addr) (c2 : Nat) (xs : List Int) (r1 : List Int) (r2 : List S79) (r3 : Int) (r4 : Bool) (w : World) (hr0 : Kd.C (Kd.int .u8) w A0 l0.length l0) (hc0 : l0.length ≤ c0) (hr1 : Kd.C k79 w A1 l1.length l1) (hc1 : l1.length ≤ c1) (hr2 : Kd.C (Kd.int .u8) w A2 xs.length xs) (hc2 : xs.length ≤ c2) (h : m_DiskWrite.f l0 l1 a2 a3 s xs = some (r1, r2, r3, r4)) :
   Calls Try.prog 82 #[.agg #[.slice A0 l0.length c0, .slice A1 l1.length c1, .int .i64 a2, .bool a3], .int .i64 s, .slice A2 xs.length c2] w fun e w' => ∃ v0_ v1_ : Value, e = .returned (.agg #[v0_, v1_, .int .i64 r3, .bool r4]) ∧ Kd.R (Kd.int .u8) 5 w' w.heap.size (fun _ => True) v0_ r1 ∧ Kd.S k79 79 w' w.heap.size (fun k_ => some k_ ≠ (v0_ : Value).ownBlock) v1_ r2 ∧ Below w.heap.size w w' := by
 unfold m_DiskWrite.f at h
 by_cases hL : l0.length ≤ 1048576 ∧ l1.length ≤ 1048576 ∧ l1.all (fun x => decide (x.f1.length ≤ 1048576)) = true
 case neg => rw [if_neg hL] at h; cases h
 rw [if_pos hL] at h
 have hok : okPendS l1 := ⟨hL.2.1, fun x hx => by have := List.all_eq_true.1 hL.2.2 x hx; simpa using this⟩
 obtain ⟨kv, hv⟩ := (implValid_ev l0 l1 a2 a3 hL.1 hL.2.1).rounds
 have HH := Aside0.mk (has_eq l0 l1 a2 a3 s hL.1)
 have HL := Aside0.mk hL.1
 have HOK := Aside0.mk hok
 have HV := Aside0.mk hv
 have HR0 := Aside0.mk hr0
 have HC0 := Aside0.mk hc0
 have HR1 := Aside0.mk hr1
 have HC1 := Aside0.mk hc1
 have HR2 := Aside0.mk hr2
 have HC2 := Aside0.mk hc2
 clear hr0 hc0 hr1 hc1 hr2 hc2 hv hL hok
 have ER := Aside0.mk (Option.some.inj h)
 clear h
 have hu25 := Try.underlying25
 have HB := Aside0.mk (Below.refl w.heap.size w)
 have hmf : ∀ (fn : Fn) (first cap : Array Value) (w : World), (Instr.makeFunc fn first cap).run Try.prog w = .ok (.func fn first cap) w := fun _ _ _ _ => rfl
 go_enter Try.func82, Try.ntmps82
 go_wp2_with fail
 refine (impl_ValidDisk.calls kv _ _ l0 _ _ l1 a2 a3 _ _ (Kd.C_alloc (Kd.C_alloc (Kd.C_alloc (Kd.C_alloc HR0.out _) _) _) _) HC0.out (Kd.C_alloc (Kd.C_alloc (Kd.C_alloc (Kd.C_alloc HR1.out _) _) _) _) HC1.out HV.out).mono ?_
 rintro e w1 ⟨rfl, gb⟩
 have K1 := Aside0.mk (show w1.heap[w.heap.size]? = some (.cells #[.slice A0 l0.length c0, .slice A1 l1.length c1, .int .i64 a2, .bool a3] 25 (0, 0)) from blk_below (blk_alloc (blk_alloc (blk_alloc (blk_new _ _) _) _) _) gb)
 have K2 := Aside0.mk (show w1.heap[w.heap.size + 1]? = some (.cells #[.int .i64 s] 2 (0, 0)) from blk_below (blk_alloc (blk_alloc (blk_new2 _ _ _) _) _) gb)
 have K3 := Aside0.mk (show w1.heap[w.heap.size + 1 + 1]? = some (.cells #[.slice A2 xs.length c2] 22 (0, 0)) from blk_below (blk_alloc (blk_new3 _ _ _ _) _) gb)
 have K4 := Aside0.mk (show w1.heap[w.heap.size + 1 + 1 + 1]? = some (.cells #[.slice none 0 0, .slice none 0 0, .int .i64 0, .bool false] 25 (0, 0)) from blk_below (by have h := blk_new (((w.alloc (.cells #[.slice A0 l0.length c0, .slice A1 l1.length c1, .int .i64 a2, .bool a3] 25)).alloc (.cells #[.int .i64 s] 2)).alloc (.cells #[.slice A2 xs.length c2] 22)) (.cells #[.slice none 0 0, .slice none 0 0, .int .i64 0, .bool false] 25); simpa using h) gb)
 have N_HB := Aside0.mk (below_step (below_alloc (below_alloc (below_alloc (below_alloc HB.out _) _) _) _) gb)
 clear HB gb
 have HB := N_HB
 clear N_HB
 have clone : (r1, r2, r3, r4) = (l0, l1, a2, a3) → ∀ W, Below w.heap.size w W → Calls Try.prog 56 #[.agg #[.slice A0 l0.length c0, .slice A1 l1.length c1, .int .i64 a2, .bool a3]] W fun e w' => ∃ v0_ v1_ : Value, e = .returned (.agg #[v0_, v1_, .int .i64 r3, .bool r4]) ∧ Kd.R (Kd.int .u8) 5 w' W.heap.size (fun _ => True) v0_ r1 ∧ Kd.S k79 79 w' W.heap.size (fun k_ => some k_ ≠ (v0_ : Value).ownBlock) v1_ r2 ∧ Below W.heap.size W w' := by
   intro he W hW
   simp only [Prod.mk.injEq] at he
   obtain ⟨rfl, rfl, rfl, rfl⟩ := he
   exact impl_Disk_clone.calls _ _ _ _ _ _ _ _ _ (Kd.C_below HR0.out hW) HC0.out (Kd.C_below HR1.out hW) HC1.out HL.out HOK.out
 have CL := Aside0.mk clone
 clear clone
 obtain ⟨z0, z1, z2, z3, y0, y1, y2, y3⟩ := blk_cells4 K1.out
 have yl := blk_lt K1.out
 have zs : w1.cell? ⟨w.heap.size + 1, 0, none⟩ = some (.int .i64 s) := (blk_cell K2.out 0).trans rfl
 have zx : w1.cell? ⟨w.heap.size + 1 + 1, 0, none⟩ = some (.slice A2 xs.length c2) := (blk_cell K3.out 0).trans rfl
 have zl := blk_lt K3.out
 by_cases cv : vD l0 l1 a2 = true
 case neg =>
   have cv' : vD l0 l1 a2 = false := by simpa using cv
   have CV := Aside0.mk cv
   rw [cv']
   clear cv cv'
   have er := ER.out
   unfold dWrite at er
   rw [if_neg (by exact fun h => CV.out h.1)] at er
   go_wp2_with fail
   refine (CL.out er.symm _ HB.out).mono ?_
   rintro e w2 ⟨v0, v1, rfl, hR, hS, gb⟩
   obtain ⟨A, c, ea⟩ := Kd.R_slice hR
   obtain ⟨B, d, eb⟩ := Kd.S_slice hS
   obtain ⟨f1, f2, f3, f4, f5⟩ := fin_disk (r3 := r3) (r4 := r4) HB.out (by omega) K4.out hR hS gb
   have F2 := Aside0.mk f2
   have F3 := Aside0.mk f3
   have F4 := Aside0.mk f4
   have F5 := Aside0.mk f5
   obtain ⟨x0, x1, x2, x3, u0, u1, u2, u3⟩ := blk_cells4 f1
   have ul := blk_lt f1
   clear f1 f2 f3 f4 f5 hR hS gb
   generalize r1.length = n1 at ea
   generalize r2.length = n2 at eb
   subst ea
   subst eb
   go_wp2_with fail
   exact bodyPost_ret (results_cell_row rfl _ _ (w.heap.size + 1 + 1 + 1) 25 _ (0, 0) _ rfl F2.out Try.underlying25 rfl (by kernel_rfl)) rfl ⟨_, _, rfl, F3.out, F4.out, F5.out⟩
 have CV := Aside0.mk cv
 rw [cv]
 clear cv
 cases a3 with
 | true =>
   have er := ER.out
   unfold dWrite at er
   rw [if_neg (by exact fun h => by cases h.2.1)] at er
   go_wp2_with fail
   refine (CL.out er.symm _ HB.out).mono ?_
   rintro e w2 ⟨v0, v1, rfl, hR, hS, gb⟩
   obtain ⟨A, c, ea⟩ := Kd.R_slice hR
   obtain ⟨B, d, eb⟩ := Kd.S_slice hS
   obtain ⟨f1, f2, f3, f4, f5⟩ := fin_disk (r3 := r3) (r4 := r4) HB.out (by omega) K4.out hR hS gb
   have F2 := Aside0.mk f2
   have F3 := Aside0.mk f3
   have F4 := Aside0.mk f4
   have F5 := Aside0.mk f5
   obtain ⟨x0, x1, x2, x3, u0, u1, u2, u3⟩ := blk_cells4 f1
   have ul := blk_lt f1
   clear f1 f2 f3 f4 f5 hR hS gb
   generalize r1.length = n1 at ea
   generalize r2.length = n2 at eb
   subst ea
   subst eb
   go_wp2_with fail
   exact bodyPost_ret (results_cell_row rfl _ _ (w.heap.size + 1 + 1 + 1) 25 _ (0, 0) _ rfl F2.out Try.underlying25 rfl (by kernel_rfl)) rfl ⟨_, _, rfl, F3.out, F4.out, F5.out⟩
 | false =>
 go_wp2_with fail
 refine (impl_Disk_has.calls _ _ l0 _ _ l1 a2 false s _ _ (Kd.C_below HR0.out HB.out) HC0.out (Kd.C_below HR1.out HB.out) HC1.out HH.out).mono ?_
 rintro e w2 ⟨rfl, gb⟩
 have N_K1 := Aside0.mk (blk_below K1.out gb)
 have N_K2 := Aside0.mk (blk_below K2.out gb)
 have N_K3 := Aside0.mk (blk_below K3.out gb)
 have N_K4 := Aside0.mk (blk_below K4.out gb)
 have N_HB := Aside0.mk (below_step HB.out gb)
 clear HB gb K1 K2 K3 K4 z0 z1 z2 z3 y0 y1 y2 y3 yl zs zx zl
 have HB := N_HB
 have K1 := N_K1
 have K2 := N_K2
 have K3 := N_K3
 have K4 := N_K4
 clear N_HB N_K1 N_K2 N_K3 N_K4 w1
 rename World => w1
 obtain ⟨z0, z1, z2, z3, y0, y1, y2, y3⟩ := blk_cells4 K1.out
 have yl := blk_lt K1.out
 have zs : w1.cell? ⟨w.heap.size + 1, 0, none⟩ = some (.int .i64 s) := (blk_cell K2.out 0).trans rfl
 have zx : w1.cell? ⟨w.heap.size + 1 + 1, 0, none⟩ = some (.slice A2 xs.length c2) := (blk_cell K3.out 0).trans rfl
 have zl := blk_lt K3.out
 by_cases ci : inD l0 s = true
 case neg =>
   have ci' : inD l0 s = false := by simpa using ci
   have CI := Aside0.mk ci
   rw [ci']
   clear ci ci'
   have er := ER.out
   unfold dWrite at er
   rw [if_neg (by exact fun h => CI.out h.2.2.1)] at er
   go_wp2_with fail
   refine (CL.out er.symm _ HB.out).mono ?_
   rintro e w2 ⟨v0, v1, rfl, hR, hS, gb⟩
   obtain ⟨A, c, ea⟩ := Kd.R_slice hR
   obtain ⟨B, d, eb⟩ := Kd.S_slice hS
   obtain ⟨f1, f2, f3, f4, f5⟩ := fin_disk (r3 := r3) (r4 := r4) HB.out (by omega) K4.out hR hS gb
   have F2 := Aside0.mk f2
   have F3 := Aside0.mk f3
   have F4 := Aside0.mk f4
   have F5 := Aside0.mk f5
   obtain ⟨x0, x1, x2, x3, u0, u1, u2, u3⟩ := blk_cells4 f1
   have ul := blk_lt f1
   clear f1 f2 f3 f4 f5 hR hS gb
   generalize r1.length = n1 at ea
   generalize r2.length = n2 at eb
   subst ea
   subst eb
   go_wp2_with fail
   exact bodyPost_ret (results_cell_row rfl _ _ (w.heap.size + 1 + 1 + 1) 25 _ (0, 0) _ rfl F2.out Try.underlying25 rfl (by kernel_rfl)) rfl ⟨_, _, rfl, F3.out, F4.out, F5.out⟩
 have CI := Aside0.mk ci
 rw [ci]
 clear ci
 by_cases cx : xs.length = 64
 case neg =>
   have CX := Aside0.mk cx
   have cx' : ((xs.length : Int) != 64) = true := by simpa using (by omega : ¬ (xs.length : Int) = 64)
   clear cx
   have er := ER.out
   unfold dWrite at er
   rw [if_neg (by exact fun h => CX.out h.2.2.2.1)] at er
   go_wp2_with fail
   refine (CL.out er.symm _ HB.out).mono ?_
   rintro e w2 ⟨v0, v1, rfl, hR, hS, gb⟩
   obtain ⟨A, c, ea⟩ := Kd.R_slice hR
   obtain ⟨B, d, eb⟩ := Kd.S_slice hS
   obtain ⟨f1, f2, f3, f4, f5⟩ := fin_disk (r3 := r3) (r4 := r4) HB.out (by omega) K4.out hR hS gb
   have F2 := Aside0.mk f2
   have F3 := Aside0.mk f3
   have F4 := Aside0.mk f4
   have F5 := Aside0.mk f5
   obtain ⟨x0, x1, x2, x3, u0, u1, u2, u3⟩ := blk_cells4 f1
   have ul := blk_lt f1
   clear f1 f2 f3 f4 f5 hR hS gb
   generalize r1.length = n1 at ea
   generalize r2.length = n2 at eb
   subst ea
   subst eb
   go_wp2_with fail
   exact bodyPost_ret (results_cell_row rfl _ _ (w.heap.size + 1 + 1 + 1) 25 _ (0, 0) _ rfl F2.out Try.underlying25 rfl (by kernel_rfl)) rfl ⟨_, _, rfl, F3.out, F4.out, F5.out⟩
 have CX := Aside0.mk cx
 have cx' : ((xs.length : Int) != 64) = false := by simpa using (by omega : (xs.length : Int) = 64)
 by_cases cm : l1.length = 2000
 · have CM := Aside0.mk cm
   have cm' : ((l1.length : Int) == 2000) = true := by simpa using (by omega : (l1.length : Int) = 2000)
   clear cx cm
   have er := ER.out
   unfold dWrite at er
   rw [if_neg (by exact fun h => h.2.2.2.2 CM.out)] at er
   go_wp2_with fail
   refine (CL.out er.symm _ HB.out).mono ?_
   rintro e w2 ⟨v0, v1, rfl, hR, hS, gb⟩
   obtain ⟨A, c, ea⟩ := Kd.R_slice hR
   obtain ⟨B, d, eb⟩ := Kd.S_slice hS
   obtain ⟨f1, f2, f3, f4, f5⟩ := fin_disk (r3 := r3) (r4 := r4) HB.out (by omega) K4.out hR hS gb
   have F2 := Aside0.mk f2
   have F3 := Aside0.mk f3
   have F4 := Aside0.mk f4
   have F5 := Aside0.mk f5
   obtain ⟨x0, x1, x2, x3, u0, u1, u2, u3⟩ := blk_cells4 f1
   have ul := blk_lt f1
   clear f1 f2 f3 f4 f5 hR hS gb
   generalize r1.length = n1 at ea
   generalize r2.length = n2 at eb
   subst ea
   subst eb
   go_wp2_with fail
   exact bodyPost_ret (results_cell_row rfl _ _ (w.heap.size + 1 + 1 + 1) 25 _ (0, 0) _ rfl F2.out Try.underlying25 rfl (by kernel_rfl)) rfl ⟨_, _, rfl, F3.out, F4.out, F5.out⟩
 · have CM := Aside0.mk cm
   have cm' : ((l1.length : Int) == 2000) = false := by simpa using (by omega : ¬ (l1.length : Int) = 2000)
   clear cx cm
   have er := ER.out
   unfold dWrite at er
   rw [if_pos ⟨CV.out, rfl, CI.out, CX.out, CM.out⟩] at er
   have ER2 := Aside0.mk er
   clear er
   go_wp2_with fail
   have pw : Calls Try.prog 57 #[.agg #[.slice A0 l0.length c0, .slice A1 l1.length c1, .int .i64 a2, .bool false], .func (.func 116) #[] #[.pointer (some ⟨w.heap.size + 1, 0, none⟩), .pointer (some ⟨w.heap.size + 1 + 1, 0, none⟩)]] w1 fun e w' => ∃ v0_ v1_ : Value, e = .returned (.agg #[v0_, v1_, .int .i64 r3, .bool r4]) ∧ Kd.R (Kd.int .u8) 5 w' w1.heap.size (fun _ => True) v0_ r1 ∧ Kd.S k79 79 w' w1.heap.size (fun k_ => some k_ ≠ (v0_ : Value).ownBlock) v1_ r2 ∧ Below w1.heap.size w1 w' := by
    have hcf : ∀ (args : Array Value) (W : World), (callFunc 116 args).run Try.prog W = .ok (.enter 116 args) W := fun args W => by simp [go_sem]
    have er := ER2.out
    have hC2 := Kd.C_below HR2.out HB.out
    rw [CX.out] at hC2 zx
    by_cases c0_ : a2 = 0
    ·rw [if_pos c0_] at er
     simp only [Prod.mk.injEq] at er
     obtain ⟨rfl, rfl, rfl, rfl⟩ := er
     subst c0_
     refine impl_Disk_powered.calls 116 _ hcf _ _ _ _ _ _ _ _ _ (Kd.C_below HR0.out HB.out) HC0.out (Kd.C_below HR1.out HB.out) HC1.out HL.out HOK.out true _ _ 0 false (fun lo b W h1 h2 hW hX => ?_)
     exact clos_write b _ _ W s A2 c2 xs CX.out (pw_cell_below hW zs) (pw_cell_below hW zx) (Kd.C_below hC2 hW) _ true ((write_dies lo b W.drew _ _ _ s xs h2 (powX_drew hX)).mono (fun e W' hh => ⟨by rw [if_pos rfl]; exact hh.1, powX_undrew hh.2⟩))
    ·rw [if_neg c0_] at er
     simp only [Prod.mk.injEq] at er
     obtain ⟨rfl, rfl, rfl, rfl⟩ := er
     refine impl_Disk_powered.calls 116 _ hcf _ _ _ _ _ _ _ _ _ (Kd.C_below HR0.out HB.out) HC0.out (Kd.C_below HR1.out HB.out) HC1.out HL.out HOK.out false _ _ (fuelD a2) false (fun lo b W h1 h2 hW hX => ?_)
     exact clos_write b _ _ W s A2 c2 xs CX.out (pw_cell_below hW zs) (pw_cell_below hW zx) (Kd.C_below hC2 hW) _ false ((write_lives lo b W.drew _ _ _ _ s xs CX.out CV.out c0_ h2 (powX_drew hX)).mono (fun e W' hh => ⟨by rw [if_neg (by decide)]; exact hh.1, powX_undrew hh.2⟩))
   refine (pw).mono ?_
   rintro e w2 ⟨v0, v1, rfl, hR, hS, gb⟩
   obtain ⟨A, c, ea⟩ := Kd.R_slice hR
   obtain ⟨B, d, eb⟩ := Kd.S_slice hS
   obtain ⟨f1, f2, f3, f4, f5⟩ := fin_disk (r3 := r3) (r4 := r4) HB.out (by omega) K4.out hR hS gb
   have F2 := Aside0.mk f2
   have F3 := Aside0.mk f3
   have F4 := Aside0.mk f4
   have F5 := Aside0.mk f5
   obtain ⟨x0, x1, x2, x3, u0, u1, u2, u3⟩ := blk_cells4 f1
   have ul := blk_lt f1
   clear f1 f2 f3 f4 f5 hR hS gb
   generalize r1.length = n1 at ea
   generalize r2.length = n2 at eb
   subst ea
   subst eb
   go_wp2_with fail
   exact bodyPost_ret (results_cell_row rfl _ _ (w.heap.size + 1 + 1 + 1) 25 _ (0, 0) _ rfl F2.out Try.underlying25 rfl (by kernel_rfl)) rfl ⟨_, _, rfl, F3.out, F4.out, F5.out⟩

/-! ### impl_DiskSync: function 18, proved by hand -/
def dSync (l0 : List Int) (l1 : List S79) (a2 : Int) (a3 : Bool) : List Int × List S79 × Int × Bool :=
 if (vD l0 l1 a2 && !a3) = true then (if a2 = 0 then (l0, l1, 0, true) else (syF l0 l1 l1.length, [], fuelD a2, a3)) else (l0, l1, a2, a3)
def m_DiskSync.f (l0 : List Int) (l1 : List S79) (a2 : Int) (a3 : Bool) : Option (List Int × List S79 × Int × Bool) :=
 if l0.length ≤ 1048576 ∧ l1.length ≤ 1048576 ∧ l1.all (fun x => decide (x.f1.length ≤ 1048576)) = true then some (dSync l0 l1 a2 a3) else none
set_option maxHeartbeats 4000000 in
set_option maxRecDepth 100000 in
theorem impl_DiskSync.calls (A0 : Option Addr) (c0 : Nat) (l0 : List Int) (A1 : Option Addr) (c1 : Nat) (l1 : List S79) (a2 : Int) (a3 : Bool) (r1 : List Int) (r2 : List S79) (r3 : Int) (r4 : Bool) (w : World) (hr0 : Kd.C (Kd.int .u8) w A0 l0.length l0) (hc0 : l0.length ≤ c0) (hr1 : Kd.C k79 w A1 l1.length l1) (hc1 : l1.length ≤ c1) (h : m_DiskSync.f l0 l1 a2 a3 = some (r1, r2, r3, r4)) :
   Calls Try.prog 18 #[.agg #[.slice A0 l0.length c0, .slice A1 l1.length c1, .int .i64 a2, .bool a3]] w fun e w' => ∃ v0_ v1_ : Value, e = .returned (.agg #[v0_, v1_, .int .i64 r3, .bool r4]) ∧ Kd.R (Kd.int .u8) 5 w' w.heap.size (fun _ => True) v0_ r1 ∧ Kd.S k79 79 w' w.heap.size (fun k_ => some k_ ≠ (v0_ : Value).ownBlock) v1_ r2 ∧ Below w.heap.size w w' := by
 unfold m_DiskSync.f at h
 by_cases hL : l0.length ≤ 1048576 ∧ l1.length ≤ 1048576 ∧ l1.all (fun x => decide (x.f1.length ≤ 1048576)) = true
 case neg => rw [if_neg hL] at h; cases h
 rw [if_pos hL] at h
 have hok : okPendS l1 := ⟨hL.2.1, fun x hx => by have := List.all_eq_true.1 hL.2.2 x hx; simpa using this⟩
 obtain ⟨kv, hv⟩ := (implValid_ev l0 l1 a2 a3 hL.1 hL.2.1).rounds
 have HL := Aside0.mk hL.1
 have HOK := Aside0.mk hok
 have HV := Aside0.mk hv
 have HR0 := Aside0.mk hr0
 have HC0 := Aside0.mk hc0
 have HR1 := Aside0.mk hr1
 have HC1 := Aside0.mk hc1
 clear hr0 hc0 hr1 hc1 hv hL hok
 have HRr := Aside0.mk (Option.some.inj h)
 clear h
 have hu25 := Try.underlying25
 have HB := Aside0.mk (Below.refl w.heap.size w)
 go_enter Try.func18, Try.ntmps18
 go_wp2_with fail
 refine (impl_ValidDisk.calls kv _ _ l0 _ _ l1 a2 a3 _ _ (Kd.C_alloc (Kd.C_alloc HR0.out _) _) HC0.out (Kd.C_alloc (Kd.C_alloc HR1.out _) _) HC1.out HV.out).mono ?_
 rintro e w1 ⟨rfl, gb⟩
 have K2 := Aside0.mk (show w1.heap[w.heap.size]? = some (.cells #[.slice A0 l0.length c0, .slice A1 l1.length c1, .int .i64 a2, .bool a3] 25 (0, 0)) from blk_below (blk_alloc (blk_new _ _) _) gb)
 have K4 := Aside0.mk (show w1.heap[w.heap.size + 1]? = some (.cells #[.slice none 0 0, .slice none 0 0, .int .i64 0, .bool false] 25 (0, 0)) from blk_two gb)
 have N_HB := Aside0.mk (below_step (below_alloc (below_alloc HB.out _) _) gb)
 clear HB gb
 have HB := N_HB
 clear N_HB
 obtain ⟨z0, z1, z2, z3, y0, y1, y2, y3⟩ := blk_cells4 K2.out
 have yl := blk_lt K2.out
 have KL := Aside0.mk (blk_lt K4.out)
 have fin : ∀ (v0 v1 : Value) (A B : Option Addr) (n c m d : Nat) (w2 : World), v0 = .slice A n c → v1 = .slice B m d → Kd.R (Kd.int .u8) 5 w2 w1.heap.size (fun _ => True) v0 r1 → Kd.S k79 79 w2 w1.heap.size (fun k_ => some k_ ≠ (v0 : Value).ownBlock) v1 r2 → Below w1.heap.size w1 w2 →
    w2.heap[w.heap.size + 1]? = some (.cells #[.slice none 0 0, .slice none 0 0, .int .i64 0, .bool false] 25 (0, 0)) ∧
    (((((w2.setCell ⟨w.heap.size + 1, 0, none⟩ v0).setCell ⟨w.heap.size + 1, 1, none⟩ v1).setCell ⟨w.heap.size + 1, 2, none⟩ (.int .i64 r3)).setCell ⟨w.heap.size + 1, 3, none⟩ (.bool r4)).heap[w.heap.size + 1]? = some (.cells #[v0, v1, .int .i64 r3, .bool r4] 25 (0, 0))) ∧
    Kd.R (Kd.int .u8) 5 ((((w2.setCell ⟨w.heap.size + 1, 0, none⟩ v0).setCell ⟨w.heap.size + 1, 1, none⟩ v1).setCell ⟨w.heap.size + 1, 2, none⟩ (.int .i64 r3)).setCell ⟨w.heap.size + 1, 3, none⟩ (.bool r4)) w.heap.size (fun _ => True) v0 r1 ∧
    Kd.S k79 79 ((((w2.setCell ⟨w.heap.size + 1, 0, none⟩ v0).setCell ⟨w.heap.size + 1, 1, none⟩ v1).setCell ⟨w.heap.size + 1, 2, none⟩ (.int .i64 r3)).setCell ⟨w.heap.size + 1, 3, none⟩ (.bool r4)) w.heap.size (fun k_ => some k_ ≠ (v0 : Value).ownBlock) v1 r2 ∧
    Below w.heap.size w ((((w2.setCell ⟨w.heap.size + 1, 0, none⟩ v0).setCell ⟨w.heap.size + 1, 1, none⟩ v1).setCell ⟨w.heap.size + 1, 2, none⟩ (.int .i64 r3)).setCell ⟨w.heap.size + 1, 3, none⟩ (.bool r4)) := by
   intro v0 v1 A B n c m d w2 _ _ hR hS hb
   have hle : w.heap.size + 1 < w1.heap.size := KL.out
   refine ⟨blk_below K4.out hb, blk_set4 (blk_below K4.out hb), ?_, ?_, ?_⟩
   ·exact Kd.R_lower (R_farB (R_farB (R_farB (R_farB hR (by omega) _ _) (by omega) _ _) (by omega) _ _) (by omega) _ _) (by omega)
   ·exact Kd.S_lower (S_farB (S_farB (S_farB (S_farB hS (by omega) _ _) (by omega) _ _) (by omega) _ _) (by omega) _ _) (by omega)
   ·exact below_setB (below_setB (below_setB (below_setB (below_step HB.out hb) (by omega) _ _) (by omega) _ _) (by omega) _ _) (by omega) _ _
 have FIN := Aside0.mk fin
 clear fin
 have clone : (r1, r2, r3, r4) = (l0, l1, a2, a3) → Calls Try.prog 56 #[.agg #[.slice A0 l0.length c0, .slice A1 l1.length c1, .int .i64 a2, .bool a3]] w1 fun e w' => ∃ v0_ v1_ : Value, e = .returned (.agg #[v0_, v1_, .int .i64 r3, .bool r4]) ∧ Kd.R (Kd.int .u8) 5 w' w1.heap.size (fun _ => True) v0_ r1 ∧ Kd.S k79 79 w' w1.heap.size (fun k_ => some k_ ≠ (v0_ : Value).ownBlock) v1_ r2 ∧ Below w1.heap.size w1 w' := by
   intro he
   simp only [Prod.mk.injEq] at he
   obtain ⟨rfl, rfl, rfl, rfl⟩ := he
   exact impl_Disk_clone.calls _ _ _ _ _ _ _ _ _ (Kd.C_below HR0.out HB.out) HC0.out (Kd.C_below HR1.out HB.out) HC1.out HL.out HOK.out
 have CL := Aside0.mk clone
 clear clone
 by_cases cv : vD l0 l1 a2 = true
 case neg =>
   have cv' : vD l0 l1 a2 = false := by simpa using cv
   rw [cv']
   have er := HRr.out
   unfold dSync at er
   rw [cv', Bool.false_and, if_neg (by decide)] at er
   go_wp2_with fail
   refine (CL.out er.symm).mono ?_
   rintro e w2 ⟨v0, v1, rfl, hR, hS, gb⟩
   obtain ⟨A, c, ea⟩ := Kd.R_slice hR
   obtain ⟨B, d, eb⟩ := Kd.S_slice hS
   obtain ⟨f1, f2, f3, f4, f5⟩ := FIN.out v0 v1 A B _ c _ d w2 ea eb hR hS gb
   have F2 := Aside0.mk f2
   have F3 := Aside0.mk f3
   have F4 := Aside0.mk f4
   have F5 := Aside0.mk f5
   obtain ⟨x0, x1, x2, x3, u0, u1, u2, u3⟩ := blk_cells4 f1
   have ul := blk_lt f1
   clear f1 f2 f3 f4 f5 hR hS gb
   generalize r1.length = n1 at ea
   generalize r2.length = n2 at eb
   subst ea
   subst eb
   go_wp2_with fail
   exact bodyPost_ret (results_cell_row rfl _ _ (w.heap.size + 1) 25 _ (0, 0) _ rfl F2.out Try.underlying25 rfl (by kernel_rfl)) rfl ⟨_, _, rfl, F3.out, F4.out, F5.out⟩
 have CV := Aside0.mk cv
 rw [cv]
 clear cv
 cases a3 with
 | true =>
   have er := HRr.out
   unfold dSync at er
   rw [Bool.not_true, Bool.and_false, if_neg (by decide)] at er
   go_wp2_with fail
   refine (CL.out er.symm).mono ?_
   rintro e w2 ⟨v0, v1, rfl, hR, hS, gb⟩
   obtain ⟨A, c, ea⟩ := Kd.R_slice hR
   obtain ⟨B, d, eb⟩ := Kd.S_slice hS
   obtain ⟨f1, f2, f3, f4, f5⟩ := FIN.out v0 v1 A B _ c _ d w2 ea eb hR hS gb
   have F2 := Aside0.mk f2
   have F3 := Aside0.mk f3
   have F4 := Aside0.mk f4
   have F5 := Aside0.mk f5
   obtain ⟨x0, x1, x2, x3, u0, u1, u2, u3⟩ := blk_cells4 f1
   have ul := blk_lt f1
   clear f1 f2 f3 f4 f5 hR hS gb
   generalize r1.length = n1 at ea
   generalize r2.length = n2 at eb
   subst ea
   subst eb
   go_wp2_with fail
   exact bodyPost_ret (results_cell_row rfl _ _ (w.heap.size + 1) 25 _ (0, 0) _ rfl F2.out Try.underlying25 rfl (by kernel_rfl)) rfl ⟨_, _, rfl, F3.out, F4.out, F5.out⟩
 | false =>
   have er := HRr.out
   unfold dSync at er
   rw [CV.out, Bool.not_false, Bool.and_true, if_pos rfl] at er
   have ER := Aside0.mk er
   clear er
   go_wp2_with fail
   have pw : Calls Try.prog 57 #[.agg #[.slice A0 l0.length c0, .slice A1 l1.length c1, .int .i64 a2, .bool false], .func (.func 58) #[] #[]] w1 fun e w' => ∃ v0_ v1_ : Value, e = .returned (.agg #[v0_, v1_, .int .i64 r3, .bool r4]) ∧ Kd.R (Kd.int .u8) 5 w' w1.heap.size (fun _ => True) v0_ r1 ∧ Kd.S k79 79 w' w1.heap.size (fun k_ => some k_ ≠ (v0_ : Value).ownBlock) v1_ r2 ∧ Below w1.heap.size w1 w' := by
    have hcf : ∀ (args : Array Value) (W : World), (callFunc 58 args).run Try.prog W = .ok (.enter 58 args) W := fun args W => by simp [go_sem]
    have er := ER.out
    by_cases c0_ : a2 = 0
    · rw [if_pos c0_] at er
      simp only [Prod.mk.injEq] at er
      obtain ⟨rfl, rfl, rfl, rfl⟩ := er
      subst c0_
      exact impl_Disk_powered.calls 58 #[] hcf _ _ _ _ _ _ _ _ _ (Kd.C_below HR0.out HB.out) HC0.out (Kd.C_below HR1.out HB.out) HC1.out HL.out HOK.out true _ _ 0 false (fun lo b W _ _ _ hX => (sync_dies lo b W _ _ _ hX).mono (fun e W' hh => ⟨by rw [if_pos rfl]; exact hh.1, hh.2⟩))
    · rw [if_neg c0_] at er
      simp only [Prod.mk.injEq] at er
      obtain ⟨rfl, rfl, rfl, rfl⟩ := er
      exact impl_Disk_powered.calls 58 #[] hcf _ _ _ _ _ _ _ _ _ (Kd.C_below HR0.out HB.out) HC0.out (Kd.C_below HR1.out HB.out) HC1.out HL.out HOK.out false _ _ (fuelD a2) false (fun lo b W _ hlo _ hX => (sync_lives lo b W _ _ _ _ CV.out c0_ hlo hX).mono (fun e W' hh => ⟨by rw [if_neg (by decide)]; exact hh.1, hh.2⟩))
   refine pw.mono ?_
   clear pw
   rintro e w2 ⟨v0, v1, rfl, hR, hS, gb⟩
   obtain ⟨A, c, ea⟩ := Kd.R_slice hR
   obtain ⟨B, d, eb⟩ := Kd.S_slice hS
   obtain ⟨f1, f2, f3, f4, f5⟩ := FIN.out v0 v1 A B _ c _ d w2 ea eb hR hS gb
   have F2 := Aside0.mk f2
   have F3 := Aside0.mk f3
   have F4 := Aside0.mk f4
   have F5 := Aside0.mk f5
   obtain ⟨x0, x1, x2, x3, u0, u1, u2, u3⟩ := blk_cells4 f1
   have ul := blk_lt f1
   clear f1 f2 f3 f4 f5 hR hS gb
   generalize r1.length = n1 at ea
   generalize r2.length = n2 at eb
   subst ea
   subst eb
   go_wp2_with fail
   exact bodyPost_ret (results_cell_row rfl _ _ (w.heap.size + 1) 25 _ (0, 0) _ rfl F2.out Try.underlying25 rfl (by kernel_rfl)) rfl ⟨_, _, rfl, F3.out, F4.out, F5.out⟩

/-! ### laws_heldByteS: function 74 -/
def laws_heldByteS.l0 : Nat → List Int → Int → Int → Option (Int)
 | 0, _, _, _ => none
 | k + 1, x0, x1, x5 => if x5 < (x0.length : Int) then (if 0 ≤ x5 then (if (rd x0 x5) = ((x1) % 256) then (laws_heldByteS.l0 k x0 (wrap64 (x1 + 1)) (wrap64 (x5 + 1))) else (some (-1))) else (none)) else (some x1)
def laws_heldByteS.f (k : Nat) (l0 : List Int) (a1 : Int) : Option (Int) := laws_heldByteS.l0 k l0 a1 0
set_option maxHeartbeats 8000000 in
set_option maxRecDepth 100000 in
theorem laws_heldByteS.calls (k : Nat) (A0 : Option Addr) (c0 : Nat) (l0 : List Int) (a1 : Int) (r : Int) (w : World) (hr0 : Kd.C (Kd.int .u8) w A0 l0.length l0) (hc0 : l0.length ≤ c0) (h : laws_heldByteS.f k l0 a1 = some r) :
  Calls Try.prog 74 #[.slice A0 l0.length c0, .int .i64 a1] w fun e w' => e = .returned (.int .i64 r) ∧ Drawn0 w w' := by
 have HR0 := Aside0.mk hr0
 have HC0 := Aside0.mk hc0
 clear hr0 hc0
 have H : (laws_heldByteS.l0 k l0 a1 0) = some r := h
 clear h
 have H' := Aside0.mk H
 clear H
 go_enter Try.func74, Try.ntmps74
 go_wp2
 go_loopg [1, 5] k (fun kq v1 v5 w' => ∃ (x1_1 : Int) (x5_1 : Int), v1 = .int .i64 x1_1 ∧ v5 = .int .i64 x5_1 ∧ Aside0 (laws_heldByteS.l0 kq l0 x1_1 x5_1 = some r) ∧ Aside0 (kq ≤ k) ∧ Drawn0 w w')
 case atStart => exact ⟨(a1), (0), (by first | rfl | (simp; done) | (simp [*]; done)), (by first | rfl | (simp; done) | (simp [*]; done)), H', ⟨Nat.le_refl _⟩, by repeat (first | exact Drawn0.refl _ | apply Drawn0.step)⟩
 case round =>
  clear H'
  try clear p2
  obtain ⟨x1_1, x5_1, rfl, rfl, HA, HK1, ⟨m1, rfl⟩⟩ := hrel
  cases gk with
  | zero => exact absurd HA.out (by simp [laws_heldByteS.l0])
  | succ k1 =>
    have H := HA.out
    clear HA
    simp only [laws_heldByteS.l0] at H
    by_cases c3 : x5_1 < (l0.length : Int)
    ·rw [if_pos c3] at H
     have c3b0 : decide (x5_1 < (l0.length : Int)) = true := decide_eq_true c3
     clear c3
     by_cases c4 : 0 ≤ x5_1
     ·rw [if_pos c4] at H
      have c4b0 : decide (0 ≤ x5_1) = true := decide_eq_true c4
      clear c4
      by_cases c5 : (rd l0 x5_1) = ((x1_1) % 256)
      ·rw [if_pos c5] at H
       have c5b0 : ((rd l0 x5_1) == ((x1_1) % 256)) = true := beq_iff_eq.mpr c5
       have c5b1 : ((rd l0 x5_1) != ((x1_1) % 256)) = false := bne_eq_false_iff_eq.mpr c5
       clear c5
       have H' := Aside0.mk H
       clear H
       have p529 : 0 ≤ (x5_1 : Int) := of_decide_eq_true (by first | (with_reducible assumption) | assumption)
       have q529 : x5_1 < (l0.length : Int) := of_decide_eq_true (by first | (with_reducible assumption) | assumption)
       obtain ⟨ad529, e529, hx529_0⟩ := Kd.at_int HR0.out x5_1 p529 q529
       cases e529
       replace p529 := eq_true p529
       replace q529 := eq_true q529
       go_wp2
       go_roundg k1
       case measure => have := HK1.out; omega
       case rel => exact ⟨(wrap64 (x1_1 + 1)), (wrap64 (x5_1 + 1)), (by first | rfl | (simp; done) | (simp [*]; done)), (by first | rfl | (simp; done) | (simp [*]; done)), H', ⟨by have := HK1.out; omega⟩, by repeat (first | exact Drawn0.refl _ | apply Drawn0.step)⟩
      ·rw [if_neg c5] at H
       have c5b0 : ((rd l0 x5_1) == ((x1_1) % 256)) = false := beq_eq_false_iff_ne.mpr c5
       have c5b1 : ((rd l0 x5_1) != ((x1_1) % 256)) = true := bne_iff_ne.mpr c5
       obtain rfl := Option.some.inj H
       have p529 : 0 ≤ (x5_1 : Int) := of_decide_eq_true (by first | (with_reducible assumption) | assumption)
       have q529 : x5_1 < (l0.length : Int) := of_decide_eq_true (by first | (with_reducible assumption) | assumption)
       obtain ⟨ad529, e529, hx529_0⟩ := Kd.at_int HR0.out x5_1 p529 q529
       cases e529
       replace p529 := eq_true p529
       replace q529 := eq_true q529
       go_wp2
       go_ret
       exact ⟨by first | rfl | (simp; done) | (simp [*]; done), by repeat (first | exact Drawn0.refl _ | apply Drawn0.step)⟩
     ·rw [if_neg c4] at H
      exact absurd H (by simp)
    ·rw [if_neg c3] at H
     have c3b0 : decide (x5_1 < (l0.length : Int)) = false := decide_eq_false c3
     clear c3
     obtain rfl := Option.some.inj H
     go_wp2
     go_ret
     exact ⟨by first | rfl | (simp; done) | (simp [*]; done), by repeat (first | exact Drawn0.refl _ | apply Drawn0.step)⟩

/-! ### laws_heldPendS: function 83 -/
def laws_heldPendS.l0 : Nat → List (S79) → Int → Int → Option (Int)
 | 0, _, _, _ => none
 | k + 1, x0, x1, x5 => if x5 < (x0.length : Int) then (if 0 ≤ x5 then (if ((rd_T79 x0 x5).f0) = x1 then ((laws_heldByteS.f k ((rd_T79 x0 x5).f1) (wrap64 (x1 + 1))).bind fun t532 => (if t532 < 0 then (some (-1)) else (laws_heldPendS.l0 k x0 t532 (wrap64 (x5 + 1))))) else (some (-1))) else (none)) else (some x1)
def laws_heldPendS.f (k : Nat) (l0 : List (S79)) (a1 : Int) : Option (Int) := laws_heldPendS.l0 k l0 a1 0
set_option maxHeartbeats 8000000 in
set_option maxRecDepth 100000 in
theorem laws_heldPendS.calls (k : Nat) (A0 : Option Addr) (c0 : Nat) (l0 : List (S79)) (a1 : Int) (r : Int) (w : World) (hr0 : Kd.C k79 w A0 l0.length l0) (hc0 : l0.length ≤ c0) (h : laws_heldPendS.f k l0 a1 = some r) :
  Calls Try.prog 83 #[.slice A0 l0.length c0, .int .i64 a1] w fun e w' => e = .returned (.int .i64 r) ∧ Drawn0 w w' := by
 have HR0 := Aside0.mk hr0
 have HC0 := Aside0.mk hc0
 clear hr0 hc0
 have H : (laws_heldPendS.l0 k l0 a1 0) = some r := h
 clear h
 have H' := Aside0.mk H
 clear H
 go_enter Try.func83, Try.ntmps83
 go_wp2
 go_loopg [1, 5] k (fun kq v1 v5 w' => ∃ (x1_1 : Int) (x5_1 : Int), v1 = .int .i64 x1_1 ∧ v5 = .int .i64 x5_1 ∧ Aside0 (laws_heldPendS.l0 kq l0 x1_1 x5_1 = some r) ∧ Aside0 (kq ≤ k) ∧ Drawn0 w w')
 case atStart => exact ⟨(a1), (0), (by first | rfl | (simp; done) | (simp [*]; done)), (by first | rfl | (simp; done) | (simp [*]; done)), H', ⟨Nat.le_refl _⟩, by repeat (first | exact Drawn0.refl _ | apply Drawn0.step)⟩
 case round =>
  clear H'
  try clear p2
  obtain ⟨x1_1, x5_1, rfl, rfl, HA, HK1, ⟨m1, rfl⟩⟩ := hrel
  cases gk with
  | zero => exact absurd HA.out (by simp [laws_heldPendS.l0])
  | succ k1 =>
    have H := HA.out
    clear HA
    simp only [laws_heldPendS.l0] at H
    by_cases c3 : x5_1 < (l0.length : Int)
    ·rw [if_pos c3] at H
     have c3b0 : decide (x5_1 < (l0.length : Int)) = true := decide_eq_true c3
     clear c3
     by_cases c4 : 0 ≤ x5_1
     ·rw [if_pos c4] at H
      have c4b0 : decide (0 ≤ x5_1) = true := decide_eq_true c4
      clear c4
      by_cases c5 : ((rd_T79 l0 x5_1).f0) = x1_1
      ·rw [if_pos c5] at H
       have c5b0 : (((rd_T79 l0 x5_1).f0) == x1_1) = true := beq_iff_eq.mpr c5
       have c5b1 : (((rd_T79 l0 x5_1).f0) != x1_1) = false := bne_eq_false_iff_eq.mpr c5
       clear c5
       replace H := Option.bind_eq_some_iff.mp H
       obtain ⟨t532, A60, H⟩ := H
       replace H : (if t532 < 0 then (some (-1)) else (laws_heldPendS.l0 k1 l0 t532 (wrap64 (x5_1 + 1)))) = some r := H
       have A6 := Aside0.mk A60
       clear A60
       by_cases c7 : t532 < 0
       ·rw [if_pos c7] at H
        have c7b0 : decide (t532 < 0) = true := decide_eq_true c7
        clear c7
        obtain rfl := Option.some.inj H
        have p530 : 0 ≤ (x5_1 : Int) := of_decide_eq_true (by first | (with_reducible assumption) | assumption)
        have q530 : x5_1 < (l0.length : Int) := of_decide_eq_true (by first | (with_reducible assumption) | assumption)
        obtain ⟨ad530, A530_1, c530_1, e530, hx530_0, hx530_1, hl530_1, hi530_1⟩ := at_T79 HR0.out x5_1 p530 q530
        cases e530
        have HR530_1 := Aside0.mk hi530_1
        have HC530_1 := Aside0.mk hl530_1
        clear hi530_1 hl530_1
        replace p530 := eq_true p530
        replace q530 := eq_true q530
        have p531 : 0 ≤ (x5_1 : Int) := of_decide_eq_true (by first | (with_reducible assumption) | assumption)
        have q531 : x5_1 < (l0.length : Int) := of_decide_eq_true (by first | (with_reducible assumption) | assumption)
        obtain ⟨ad531, A531_1, c531_1, e531, hx531_0, hx531_1, hl531_1, hi531_1⟩ := at_T79 HR0.out x5_1 p531 q531
        obtain rfl : ad530 = ad531 := (by injection e531)
        have HR531_1 := Aside0.mk hi531_1
        have HC531_1 := Aside0.mk hl531_1
        clear hi531_1 hl531_1
        replace p531 := eq_true p531
        replace q531 := eq_true q531
        have ea_ := Option.some.inj (hx530_1.symm.trans hx531_1)
        injection ea_ with ea_ en_ ec_
        subst ea_
        subst ec_
        clear en_
        go_wp2_with (first | ((with_reducible refine gate_callee (f := 74) rfl ?_); refine goesL_ (some 27) rfl rfl Try.func74 (by kernel_rfl) rfl #[.slice A530_1 ((rd_T79 l0 x5_1).f1).length c530_1, .int .i64 (wrap64 (x1_1 + 1))] rfl (by (try simp only [List.map_toArray, List.map_cons, List.map_nil]); first | done | rfl | (simp only [List.length_drop, List.length_take]; rfl)) ?_; (with_reducible refine (laws_heldByteS.calls k1 _ _ ((rd_T79 l0 x5_1).f1) (wrap64 (x1_1 + 1)) t532 _ ?side1 ?side2 A6.out).mono ?_); (case side1 => repeat (first | exact HR531_1.out | (with_reducible refine Kd.C_alloc ?_ _) | (with_reducible refine Kd.C_drewN ?_ _) | (with_reducible refine Kd.C_drew ?_))); (case side2 => exact HC531_1.out); rintro e w' ⟨rfl, ⟨nd, rfl⟩⟩; refine ⟨_, rfl, ?_⟩))
        go_ret
        exact ⟨by first | rfl | (simp; done) | (simp [*]; done), by repeat (first | exact Drawn0.refl _ | apply Drawn0.step)⟩
       ·rw [if_neg c7] at H
        have c7b0 : decide (t532 < 0) = false := decide_eq_false c7
        clear c7
        have H' := Aside0.mk H
        clear H
        have p530 : 0 ≤ (x5_1 : Int) := of_decide_eq_true (by first | (with_reducible assumption) | assumption)
        have q530 : x5_1 < (l0.length : Int) := of_decide_eq_true (by first | (with_reducible assumption) | assumption)
        obtain ⟨ad530, A530_1, c530_1, e530, hx530_0, hx530_1, hl530_1, hi530_1⟩ := at_T79 HR0.out x5_1 p530 q530
        cases e530
        have HR530_1 := Aside0.mk hi530_1
        have HC530_1 := Aside0.mk hl530_1
        clear hi530_1 hl530_1
        replace p530 := eq_true p530
        replace q530 := eq_true q530
        have p531 : 0 ≤ (x5_1 : Int) := of_decide_eq_true (by first | (with_reducible assumption) | assumption)
        have q531 : x5_1 < (l0.length : Int) := of_decide_eq_true (by first | (with_reducible assumption) | assumption)
        obtain ⟨ad531, A531_1, c531_1, e531, hx531_0, hx531_1, hl531_1, hi531_1⟩ := at_T79 HR0.out x5_1 p531 q531
        obtain rfl : ad530 = ad531 := (by injection e531)
        have HR531_1 := Aside0.mk hi531_1
        have HC531_1 := Aside0.mk hl531_1
        clear hi531_1 hl531_1
        replace p531 := eq_true p531
        replace q531 := eq_true q531
        have ea_ := Option.some.inj (hx530_1.symm.trans hx531_1)
        injection ea_ with ea_ en_ ec_
        subst ea_
        subst ec_
        clear en_
        go_wp2_with (first | ((with_reducible refine gate_callee (f := 74) rfl ?_); refine goesL_ (some 27) rfl rfl Try.func74 (by kernel_rfl) rfl #[.slice A530_1 ((rd_T79 l0 x5_1).f1).length c530_1, .int .i64 (wrap64 (x1_1 + 1))] rfl (by (try simp only [List.map_toArray, List.map_cons, List.map_nil]); first | done | rfl | (simp only [List.length_drop, List.length_take]; rfl)) ?_; (with_reducible refine (laws_heldByteS.calls k1 _ _ ((rd_T79 l0 x5_1).f1) (wrap64 (x1_1 + 1)) t532 _ ?side1 ?side2 A6.out).mono ?_); (case side1 => repeat (first | exact HR531_1.out | (with_reducible refine Kd.C_alloc ?_ _) | (with_reducible refine Kd.C_drewN ?_ _) | (with_reducible refine Kd.C_drew ?_))); (case side2 => exact HC531_1.out); rintro e w' ⟨rfl, ⟨nd, rfl⟩⟩; refine ⟨_, rfl, ?_⟩))
        go_roundg k1
        case measure => have := HK1.out; omega
        case rel => exact ⟨(t532), (wrap64 (x5_1 + 1)), (by first | rfl | (simp; done) | (simp [*]; done)), (by first | rfl | (simp; done) | (simp [*]; done)), H', ⟨by have := HK1.out; omega⟩, by repeat (first | exact Drawn0.refl _ | apply Drawn0.step)⟩
      ·rw [if_neg c5] at H
       have c5b0 : (((rd_T79 l0 x5_1).f0) == x1_1) = false := beq_eq_false_iff_ne.mpr c5
       have c5b1 : (((rd_T79 l0 x5_1).f0) != x1_1) = true := bne_iff_ne.mpr c5
       obtain rfl := Option.some.inj H
       have p530 : 0 ≤ (x5_1 : Int) := of_decide_eq_true (by first | (with_reducible assumption) | assumption)
       have q530 : x5_1 < (l0.length : Int) := of_decide_eq_true (by first | (with_reducible assumption) | assumption)
       obtain ⟨ad530, A530_1, c530_1, e530, hx530_0, hx530_1, hl530_1, hi530_1⟩ := at_T79 HR0.out x5_1 p530 q530
       cases e530
       have HR530_1 := Aside0.mk hi530_1
       have HC530_1 := Aside0.mk hl530_1
       clear hi530_1 hl530_1
       replace p530 := eq_true p530
       replace q530 := eq_true q530
       go_wp2
       go_ret
       exact ⟨by first | rfl | (simp; done) | (simp [*]; done), by repeat (first | exact Drawn0.refl _ | apply Drawn0.step)⟩
     ·rw [if_neg c4] at H
      exact absurd H (by simp)
    ·rw [if_neg c3] at H
     have c3b0 : decide (x5_1 < (l0.length : Int)) = false := decide_eq_false c3
     clear c3
     obtain rfl := Option.some.inj H
     go_wp2
     go_ret
     exact ⟨by first | rfl | (simp; done) | (simp [*]; done), by repeat (first | exact Drawn0.refl _ | apply Drawn0.step)⟩

/-! ### laws_heldDisk: function 34 -/
def laws_heldDisk.f (k : Nat) (l0_0 : List Int) (l0_1 : List (S79)) (a0_2 : Int) (a0_3 : Bool) (a1 : Int) : Option (Int) := (laws_heldByteS.f k l0_0 a1).bind fun t534 => (if t534 < 0 then (some (-1)) else ((laws_heldPendS.f k l0_1 t534).bind fun t535 => (if t535 < 0 then (some (-1)) else (some t535))))
set_option maxHeartbeats 8000000 in
set_option maxRecDepth 100000 in
theorem laws_heldDisk.calls (k : Nat) (A0_0 : Option Addr) (c0_0 : Nat) (l0_0 : List Int) (A0_1 : Option Addr) (c0_1 : Nat) (l0_1 : List (S79)) (a0_2 : Int) (a0_3 : Bool) (a1 : Int) (r : Int) (w : World) (hr0_0 : Kd.C (Kd.int .u8) w A0_0 l0_0.length l0_0) (hc0_0 : l0_0.length ≤ c0_0) (hr0_1 : Kd.C k79 w A0_1 l0_1.length l0_1) (hc0_1 : l0_1.length ≤ c0_1) (h : laws_heldDisk.f k l0_0 l0_1 a0_2 a0_3 a1 = some r) :
  Calls Try.prog 34 #[.agg #[.slice A0_0 l0_0.length c0_0, .slice A0_1 l0_1.length c0_1, .int .i64 a0_2, .bool a0_3], .int .i64 a1] w fun e w' => e = .returned (.int .i64 r) ∧ Below w.heap.size w w' := by
 have hu25 := Try.underlying25
 have HR0_0 := Aside0.mk hr0_0
 have HC0_0 := Aside0.mk hc0_0
 clear hr0_0 hc0_0
 have HR0_1 := Aside0.mk hr0_1
 have HC0_1 := Aside0.mk hc0_1
 clear hr0_1 hc0_1
 have HB := Aside0.mk (Below.refl w.heap.size w)
 have H : ((laws_heldByteS.f k l0_0 a1).bind fun t534 => (if t534 < 0 then (some (-1)) else ((laws_heldPendS.f k l0_1 t534).bind fun t535 => (if t535 < 0 then (some (-1)) else (some t535))))) = some r := h
 clear h
 replace H := Option.bind_eq_some_iff.mp H
 obtain ⟨t534, A30, H⟩ := H
 replace H : (if t534 < 0 then (some (-1)) else ((laws_heldPendS.f k l0_1 t534).bind fun t535 => (if t535 < 0 then (some (-1)) else (some t535)))) = some r := H
 have A3 := Aside0.mk A30
 clear A30
 by_cases c4 : t534 < 0
 ·rw [if_pos c4] at H
  have c4b0 : decide (t534 < 0) = true := decide_eq_true c4
  clear c4
  obtain rfl := Option.some.inj H
  go_enter Try.func34, Try.ntmps34
  go_wp2_with (first | ((with_reducible refine gate_dst (N := 2) rfl ?_); refine box_event ?hg (N := 2) ?hd (cs := #[.slice A0_0 l0_0.length c0_0, .slice A0_1 l0_1.length c0_1, .int .i64 a0_2, .bool a0_3]) (t := 25) ?hr ?_; (case hd => rfl); (case hg => rfl); (case hr => first | (go_simp; done) | (go_simp; rfl)); intro gb533 hg w5 hbox hb; have n0_ := Aside0.mk (below_step (by repeat (first | (with_reducible first | exact HB.out | apply below_alloc | apply pw_below_drewN | apply below_drew1) | exact HB.out)) hb); have n1_ := Aside0.mk (hbox); have n2_ := Aside0.mk ((by rw [hg]; exact (below_size (by repeat (first | (with_reducible first | exact HB.out | apply below_alloc | apply pw_below_drewN | apply below_drew1) | exact HB.out))) : w.heap.size ≤ gb533)); have n3_ := Aside0.mk ((by rw [hg]; exact (below_size (by repeat (first | (with_reducible first | exact HB.out | apply below_alloc | apply pw_below_drewN | apply below_drew1) | exact HB.out))) : w.heap.size ≤ gb533)); clear HB; have HB := n0_; have BK533 := n1_; have GW533 := n2_; have GE533 := n3_; clear n0_ n1_ n2_ n3_; clear hb hbox hg; have hcz6_0 : w5.cell? ⟨gb533, 0, none⟩ = some (.slice A0_0 l0_0.length c0_0) := (blk_cell BK533.out 0).trans rfl; have hcz6_1 : w5.cell? ⟨gb533, 1, none⟩ = some (.slice A0_1 l0_1.length c0_1) := (blk_cell BK533.out 1).trans rfl; have hcz6_2 : w5.cell? ⟨gb533, 2, none⟩ = some (.int .i64 a0_2) := (blk_cell BK533.out 2).trans rfl; have hcz6_3 : w5.cell? ⟨gb533, 3, none⟩ = some (.bool a0_3) := (blk_cell BK533.out 3).trans rfl; have hfz6_0 := blk_frozen BK533.out 0; have hfz6_1 := blk_frozen BK533.out 1; have hfz6_2 := blk_frozen BK533.out 2; have hfz6_3 := blk_frozen BK533.out 3) | ((with_reducible refine gate_callee (f := 74) rfl ?_); refine goesL_ (some 8) rfl rfl Try.func74 (by kernel_rfl) rfl #[.slice A0_0 l0_0.length c0_0, .int .i64 a1] rfl (by (try simp only [List.map_toArray, List.map_cons, List.map_nil]); first | done | rfl | (simp only [List.length_drop, List.length_take]; rfl)) ?_; (with_reducible refine (laws_heldByteS.calls k _ _ l0_0 a1 t534 _ ?side1 ?side2 A3.out).mono ?_); (case side1 => repeat (first | exact (Kd.C_below HR0_0.out HB.out) | (with_reducible refine Kd.C_alloc ?_ _) | (with_reducible refine Kd.C_drewN ?_ _) | (with_reducible refine Kd.C_drew ?_))); (case side2 => exact HC0_0.out); rintro e w' ⟨rfl, ⟨nd, rfl⟩⟩; refine ⟨_, rfl, ?_⟩))
  go_ret
  exact ⟨by first | rfl | (simp [errW_none, errW_some] <;> rfl) | (simp [*, errW_none, errW_some] <;> rfl), by repeat (first | (with_reducible first | exact HB.out | apply below_alloc | apply pw_below_drewN | apply below_drew1 | refine below_set ?_ GE533.out) | exact HB.out)⟩
 ·rw [if_neg c4] at H
  have c4b0 : decide (t534 < 0) = false := decide_eq_false c4
  clear c4
  replace H := Option.bind_eq_some_iff.mp H
  obtain ⟨t535, A70, H⟩ := H
  replace H : (if t535 < 0 then (some (-1)) else (some t535)) = some r := H
  have A7 := Aside0.mk A70
  clear A70
  by_cases c8 : t535 < 0
  ·rw [if_pos c8] at H
   have c8b0 : decide (t535 < 0) = true := decide_eq_true c8
   clear c8
   obtain rfl := Option.some.inj H
   go_enter Try.func34, Try.ntmps34
   go_wp2_with (first | ((with_reducible refine gate_dst (N := 2) rfl ?_); refine box_event ?hg (N := 2) ?hd (cs := #[.slice A0_0 l0_0.length c0_0, .slice A0_1 l0_1.length c0_1, .int .i64 a0_2, .bool a0_3]) (t := 25) ?hr ?_; (case hd => rfl); (case hg => rfl); (case hr => first | (go_simp; done) | (go_simp; rfl)); intro gb533 hg w9 hbox hb; have n0_ := Aside0.mk (below_step (by repeat (first | (with_reducible first | exact HB.out | apply below_alloc | apply pw_below_drewN | apply below_drew1) | exact HB.out)) hb); have n1_ := Aside0.mk (hbox); have n2_ := Aside0.mk ((by rw [hg]; exact (below_size (by repeat (first | (with_reducible first | exact HB.out | apply below_alloc | apply pw_below_drewN | apply below_drew1) | exact HB.out))) : w.heap.size ≤ gb533)); have n3_ := Aside0.mk ((by rw [hg]; exact (below_size (by repeat (first | (with_reducible first | exact HB.out | apply below_alloc | apply pw_below_drewN | apply below_drew1) | exact HB.out))) : w.heap.size ≤ gb533)); clear HB; have HB := n0_; have BK533 := n1_; have GW533 := n2_; have GE533 := n3_; clear n0_ n1_ n2_ n3_; clear hb hbox hg; have hcz10_0 : w9.cell? ⟨gb533, 0, none⟩ = some (.slice A0_0 l0_0.length c0_0) := (blk_cell BK533.out 0).trans rfl; have hcz10_1 : w9.cell? ⟨gb533, 1, none⟩ = some (.slice A0_1 l0_1.length c0_1) := (blk_cell BK533.out 1).trans rfl; have hcz10_2 : w9.cell? ⟨gb533, 2, none⟩ = some (.int .i64 a0_2) := (blk_cell BK533.out 2).trans rfl; have hcz10_3 : w9.cell? ⟨gb533, 3, none⟩ = some (.bool a0_3) := (blk_cell BK533.out 3).trans rfl; have hfz10_0 := blk_frozen BK533.out 0; have hfz10_1 := blk_frozen BK533.out 1; have hfz10_2 := blk_frozen BK533.out 2; have hfz10_3 := blk_frozen BK533.out 3) | ((with_reducible refine gate_callee (f := 74) rfl ?_); refine goesL_ (some 8) rfl rfl Try.func74 (by kernel_rfl) rfl #[.slice A0_0 l0_0.length c0_0, .int .i64 a1] rfl (by (try simp only [List.map_toArray, List.map_cons, List.map_nil]); first | done | rfl | (simp only [List.length_drop, List.length_take]; rfl)) ?_; (with_reducible refine (laws_heldByteS.calls k _ _ l0_0 a1 t534 _ ?side1 ?side2 A3.out).mono ?_); (case side1 => repeat (first | exact (Kd.C_below HR0_0.out HB.out) | (with_reducible refine Kd.C_alloc ?_ _) | (with_reducible refine Kd.C_drewN ?_ _) | (with_reducible refine Kd.C_drew ?_))); (case side2 => exact HC0_0.out); rintro e w' ⟨rfl, ⟨nd, rfl⟩⟩; refine ⟨_, rfl, ?_⟩) | ((with_reducible refine gate_callee (f := 83) rfl ?_); refine goesL_ (some 14) rfl rfl Try.func83 (by kernel_rfl) rfl #[.slice A0_1 l0_1.length c0_1, .int .i64 t534] rfl (by (try simp only [List.map_toArray, List.map_cons, List.map_nil]); first | done | rfl | (simp only [List.length_drop, List.length_take]; rfl)) ?_; (with_reducible refine (laws_heldPendS.calls k _ _ l0_1 t534 t535 _ ?side1 ?side2 A7.out).mono ?_); (case side1 => repeat (first | exact (Kd.C_below HR0_1.out (by repeat (first | (with_reducible first | exact HB.out | apply below_alloc | apply pw_below_drewN | apply below_drew1 | refine below_set ?_ GE533.out) | exact HB.out))) | (with_reducible refine Kd.C_alloc ?_ _) | (with_reducible refine Kd.C_drewN ?_ _) | (with_reducible refine Kd.C_drew ?_))); (case side2 => exact HC0_1.out); rintro e w' ⟨rfl, ⟨nd, rfl⟩⟩; refine ⟨_, rfl, ?_⟩))
   go_ret
   exact ⟨by first | rfl | (simp [errW_none, errW_some] <;> rfl) | (simp [*, errW_none, errW_some] <;> rfl), by repeat (first | (with_reducible first | exact HB.out | apply below_alloc | apply pw_below_drewN | apply below_drew1 | refine below_set ?_ GE533.out) | exact HB.out)⟩
  ·rw [if_neg c8] at H
   have c8b0 : decide (t535 < 0) = false := decide_eq_false c8
   clear c8
   obtain rfl := Option.some.inj H
   go_enter Try.func34, Try.ntmps34
   go_wp2_with (first | ((with_reducible refine gate_dst (N := 2) rfl ?_); refine box_event ?hg (N := 2) ?hd (cs := #[.slice A0_0 l0_0.length c0_0, .slice A0_1 l0_1.length c0_1, .int .i64 a0_2, .bool a0_3]) (t := 25) ?hr ?_; (case hd => rfl); (case hg => rfl); (case hr => first | (go_simp; done) | (go_simp; rfl)); intro gb533 hg w11 hbox hb; have n0_ := Aside0.mk (below_step (by repeat (first | (with_reducible first | exact HB.out | apply below_alloc | apply pw_below_drewN | apply below_drew1) | exact HB.out)) hb); have n1_ := Aside0.mk (hbox); have n2_ := Aside0.mk ((by rw [hg]; exact (below_size (by repeat (first | (with_reducible first | exact HB.out | apply below_alloc | apply pw_below_drewN | apply below_drew1) | exact HB.out))) : w.heap.size ≤ gb533)); have n3_ := Aside0.mk ((by rw [hg]; exact (below_size (by repeat (first | (with_reducible first | exact HB.out | apply below_alloc | apply pw_below_drewN | apply below_drew1) | exact HB.out))) : w.heap.size ≤ gb533)); clear HB; have HB := n0_; have BK533 := n1_; have GW533 := n2_; have GE533 := n3_; clear n0_ n1_ n2_ n3_; clear hb hbox hg; have hcz12_0 : w11.cell? ⟨gb533, 0, none⟩ = some (.slice A0_0 l0_0.length c0_0) := (blk_cell BK533.out 0).trans rfl; have hcz12_1 : w11.cell? ⟨gb533, 1, none⟩ = some (.slice A0_1 l0_1.length c0_1) := (blk_cell BK533.out 1).trans rfl; have hcz12_2 : w11.cell? ⟨gb533, 2, none⟩ = some (.int .i64 a0_2) := (blk_cell BK533.out 2).trans rfl; have hcz12_3 : w11.cell? ⟨gb533, 3, none⟩ = some (.bool a0_3) := (blk_cell BK533.out 3).trans rfl; have hfz12_0 := blk_frozen BK533.out 0; have hfz12_1 := blk_frozen BK533.out 1; have hfz12_2 := blk_frozen BK533.out 2; have hfz12_3 := blk_frozen BK533.out 3) | ((with_reducible refine gate_callee (f := 74) rfl ?_); refine goesL_ (some 8) rfl rfl Try.func74 (by kernel_rfl) rfl #[.slice A0_0 l0_0.length c0_0, .int .i64 a1] rfl (by (try simp only [List.map_toArray, List.map_cons, List.map_nil]); first | done | rfl | (simp only [List.length_drop, List.length_take]; rfl)) ?_; (with_reducible refine (laws_heldByteS.calls k _ _ l0_0 a1 t534 _ ?side1 ?side2 A3.out).mono ?_); (case side1 => repeat (first | exact (Kd.C_below HR0_0.out HB.out) | (with_reducible refine Kd.C_alloc ?_ _) | (with_reducible refine Kd.C_drewN ?_ _) | (with_reducible refine Kd.C_drew ?_))); (case side2 => exact HC0_0.out); rintro e w' ⟨rfl, ⟨nd, rfl⟩⟩; refine ⟨_, rfl, ?_⟩) | ((with_reducible refine gate_callee (f := 83) rfl ?_); refine goesL_ (some 14) rfl rfl Try.func83 (by kernel_rfl) rfl #[.slice A0_1 l0_1.length c0_1, .int .i64 t534] rfl (by (try simp only [List.map_toArray, List.map_cons, List.map_nil]); first | done | rfl | (simp only [List.length_drop, List.length_take]; rfl)) ?_; (with_reducible refine (laws_heldPendS.calls k _ _ l0_1 t534 t535 _ ?side1 ?side2 A7.out).mono ?_); (case side1 => repeat (first | exact (Kd.C_below HR0_1.out (by repeat (first | (with_reducible first | exact HB.out | apply below_alloc | apply pw_below_drewN | apply below_drew1 | refine below_set ?_ GE533.out) | exact HB.out))) | (with_reducible refine Kd.C_alloc ?_ _) | (with_reducible refine Kd.C_drewN ?_ _) | (with_reducible refine Kd.C_drew ?_))); (case side2 => exact HC0_1.out); rintro e w' ⟨rfl, ⟨nd, rfl⟩⟩; refine ⟨_, rfl, ?_⟩))
   go_ret
   exact ⟨by first | rfl | (simp [errW_none, errW_some] <;> rfl) | (simp [*, errW_none, errW_some] <;> rfl), by repeat (first | (with_reducible first | exact HB.out | apply below_alloc | apply pw_below_drewN | apply below_drew1 | refine below_set ?_ GE533.out) | exact HB.out)⟩

/-! ### spec_RecSectors: function 46 -/
def spec_RecSectors.j0 : Nat → Int → Bool → Option (Int)
 | 0, _, _ => none
 | k + 1, x0, x8 => if x8 = true then (some 0) else (if x0 = 0 then (some 1) else (some (wrap64 (Int.tdiv (wrap64 ((wrap64 (x0 + 48)) - 1)) 48))))
def spec_RecSectors.f (k : Nat) (a0 : Int) : Option (Int) := if a0 < 0 then (spec_RecSectors.j0 k a0 true) else (spec_RecSectors.j0 k a0 (decide (a0 > 30000)))
set_option maxHeartbeats 8000000 in
set_option maxRecDepth 100000 in
theorem spec_RecSectors.calls (k : Nat) (a0 : Int) (r : Int) (w : World) (h : spec_RecSectors.f k a0 = some r) :
  Calls Try.prog 46 #[.int .i64 a0] w fun e w' => e = .returned (.int .i64 r) ∧ Drawn0 w w' := by
 have H : (if a0 < 0 then (spec_RecSectors.j0 k a0 true) else (spec_RecSectors.j0 k a0 (decide (a0 > 30000)))) = some r := h
 clear h
 have HC2 := Aside0.mk H
 clear H
 go_enter Try.func46, Try.ntmps46
 go_upto_region 1 with (fail)
 go_cut [8] (fun v8 wc => ∃ (kq : Nat) (x8_1 : Bool), v8 = .bool x8_1 ∧ Aside0 (spec_RecSectors.j0 kq a0 x8_1 = some r) ∧ Aside0 (kq ≤ k) ∧ Drawn0 w wc)
 case first =>
  have H := HC2.out
  clear HC2
  by_cases c3 : a0 < 0
  · rw [if_pos c3] at H
    have c3b0 : decide (a0 < 0) = true := decide_eq_true c3
    clear c3
    (first | rw [c3b0] | (simp only [i64_w, i32_w]; rw [c3b0]) | skip)
    have H' := Aside0.mk H
    clear H
    go_wp2
    go_meet
    case rel => exact ⟨_, (true), (by first | rfl | (simp; done) | (simp [*]; done)), H', ⟨by first | omega | exact Nat.le_refl _⟩, by repeat (first | exact Drawn0.refl _ | apply Drawn0.step)⟩
  · rw [if_neg c3] at H
    have c3b0 : decide (a0 < 0) = false := decide_eq_false c3
    clear c3
    (first | rw [c3b0] | (simp only [i64_w, i32_w]; rw [c3b0]) | skip)
    have H' := Aside0.mk H
    clear H
    go_wp2
    go_meet
    case rel => exact ⟨_, (decide (a0 > 30000)), (by first | rfl | (simp; done) | (simp [*]; done)), H', ⟨by first | omega | exact Nat.le_refl _⟩, by repeat (first | exact Drawn0.refl _ | apply Drawn0.step)⟩
 case rest =>
  clear HC2
  try clear p2
  try clear c3
  try clear c3b0
  obtain ⟨kq, x8_1, rfl, HA, HJ1, ⟨mc1, rfl⟩⟩ := hcut
  cases kq with
  | zero => exact absurd HA.out (by simp [spec_RecSectors.j0])
  | succ kj1 =>
    have H := HA.out
    clear HA
    simp only [spec_RecSectors.j0] at H
    by_cases c4 : x8_1 = true
    · subst c4
      have H1 : (some 0) = some r := by rw [if_pos rfl] at H; exact H
      clear H
      have H := H1
      clear H1
      obtain rfl := Option.some.inj H
      go_wp2
      go_ret
      exact ⟨by first | rfl | (simp; done) | (simp [*]; done), by repeat (first | exact Drawn0.refl _ | apply Drawn0.step)⟩
    · replace c4 := Bool.eq_false_iff.mpr c4
      subst c4
      have H1 : (if a0 = 0 then (some 1) else (some (wrap64 (Int.tdiv (wrap64 ((wrap64 (a0 + 48)) - 1)) 48)))) = some r := by rw [if_neg (show ¬ (false = true) by decide)] at H; exact H
      clear H
      have H := H1
      clear H1
      by_cases c5 : a0 = 0
      ·rw [if_pos c5] at H
       have c5b0 : (a0 == 0) = true := beq_iff_eq.mpr c5
       have c5b1 : (a0 != 0) = false := bne_eq_false_iff_eq.mpr c5
       clear c5
       obtain rfl := Option.some.inj H
       go_wp2
       go_ret
       exact ⟨by first | rfl | (simp; done) | (simp [*]; done), by repeat (first | exact Drawn0.refl _ | apply Drawn0.step)⟩
      ·rw [if_neg c5] at H
       have c5b0 : (a0 == 0) = false := beq_eq_false_iff_ne.mpr c5
       have c5b1 : (a0 != 0) = true := bne_iff_ne.mpr c5
       obtain rfl := Option.some.inj H
       go_wp2
       go_ret
       exact ⟨by first | rfl | (simp; done) | (simp [*]; done), by repeat (first | exact Drawn0.refl _ | apply Drawn0.step)⟩

/-! ### spec_l2Sectors: function 69 -/
mutual
def spec_l2Sectors.l0 : Nat → Int → List Int → Int → List (List Int) → Int → Option ((List (List Int)))
 | 0, _, _, _, _, _ => none
 | k + 1, x0, x1, x5, x6, x7 => if x7 < x5 then (if 0 ≤ (wrap64 (x7 * 48)) then (if (wrap64 (x7 * 48)) ≤ (x1.length : Int) then ((some (x1.drop ((wrap64 (x7 * 48)) : Int).toNat : List Int)).bind fun y594 => (if (y594.length : Int) > 48 then (if 48 ≤ (y594.length : Int) then (spec_l2Sectors.j1 k x0 x1 x5 x6 x7 (y594.take 48)) else (none)) else (spec_l2Sectors.j1 k x0 x1 x5 x6 x7 y594))) else (none)) else (none)) else (some x6)
def spec_l2Sectors.j1 : Nat → Int → List Int → Int → List (List Int) → Int → List Int → Option ((List (List Int)))
 | 0, _, _, _, _, _, _ => none
 | k + 1, x0, x1, x5, x6, x7, x8 => (spec_l2Put.f k x0 4).bind fun t604 => ((spec_l2Put.f k x7 2).bind fun t607 => ((spec_l2Put.f k x5 2).bind fun t610 => ((spec_l2Put.f k (x8.length : Int) 2).bind fun t613 => ((spec_l2Cat.f k (([t604, t607, t610, t613, (([82, 49] : List Int))] : List (List Int)))).bind fun t622 => ((spec_l1Zeros.f k (wrap64 (48 - (x8.length : Int)))).bind fun t625 => ((spec_l2Cat.f k (([t622, x8, t625] : List (List Int)))).bind fun t631 => ((spec_l2Seal.f k t631).bind fun t634 => (if x6.length < 5864062014805 then (spec_l2Sectors.l0 k x0 x1 x5 (x6 ++ [t634]) (wrap64 (x7 + 1))) else (none)))))))))
end
def spec_l2Sectors.f (k : Nat) (a0 : Int) (l1 : List Int) : Option ((List (List Int))) := (spec_RecSectors.f k (l1.length : Int)).bind fun t590 => (spec_l2Sectors.l0 k a0 l1 t590 (([] : List (List Int))) 0)
set_option maxHeartbeats 8000000 in
set_option maxRecDepth 100000 in
theorem spec_l2Sectors.calls (k : Nat) (a0 : Int) (P1_ : Nat → Prop) (A1 : Option Addr) (c1 : Nat) (l1 : List Int) (r : List (List Int)) (w : World) (hs1 : Kd.V (Kd.int .u8) 5 w w.heap.size (fun k_ => P1_ k_) (.slice A1 l1.length c1) l1) (h : spec_l2Sectors.f k a0 l1 = some r) :
  Calls Try.prog 69 #[.int .i64 a0, .slice A1 l1.length c1] w fun e w' => ∃ v0_ : Value, e = .returned (v0_) ∧ Kd.N (Kd.slice 5 (Kd.int .u8)) 22 w' w.heap.size (fun k_ => (P1_ k_ ∨ w.heap.size ≤ k_)) v0_ r ∧ Below w.heap.size w w' := by
 have HO1 := Aside0.mk (show Kd.V (Kd.int .u8) 5 w w.heap.size (fun k_ => (P1_ k_ ∨ w.heap.size ≤ k_)) (.slice A1 l1.length c1) l1 from Kd.V_mono hs1 (fun k_ hk => .inl hk))
 have HB := Aside0.mk (Below.refl w.heap.size w)
 have H : ((spec_RecSectors.f k (l1.length : Int)).bind fun t590 => (spec_l2Sectors.l0 k a0 l1 t590 (([] : List (List Int))) 0)) = some r := h
 clear h
 replace H := Option.bind_eq_some_iff.mp H
 obtain ⟨t590, A30, H⟩ := H
 replace H : (spec_l2Sectors.l0 k a0 l1 t590 (([] : List (List Int))) 0) = some r := H
 have A3 := Aside0.mk A30
 clear A30
 obtain ⟨y591, hy591⟩ : ∃ y_ : List (List Int), y_ = (([] : List (List Int))) := ⟨_, rfl⟩
 replace H : (spec_l2Sectors.l0 k a0 l1 t590 y591 0) = some r := by first | (rw [hy591]; with_reducible exact H) | (have H2_ := (Option.bind_some _ _).symm.trans H; rw [hy591]; with_reducible exact H2_) | (have H2_ := (Option.bind_some _ _).symm.trans H; with_reducible exact H2_) | with_reducible exact H | (rw [hy591]; exact H) | exact H
 have Ny591 := Aside0.mk hy591
 clear hy591
 have H' := Aside0.mk H
 clear H
 go_enter Try.func69, Try.ntmps69
 go_wp2_with (first | ((with_reducible refine gate_callee (f := 46) rfl ?_); refine goesL_ (some 12) rfl rfl Try.func46 (by kernel_rfl) rfl #[.int .i64 (l1.length : Int)] rfl (by (try simp only [List.map_toArray, List.map_cons, List.map_nil]); first | done | rfl | (simp only [List.length_drop, List.length_take]; rfl)) ?_; (with_reducible refine (spec_RecSectors.calls k (l1.length : Int) t590 _ A3.out).mono ?_); rintro e w' ⟨rfl, ⟨nd, rfl⟩⟩; refine ⟨_, rfl, ?_⟩) | ((with_reducible refine gate_dst (N := 13) rfl ?_); refine Kd.N_lit (Kd.slice 5 (Kd.int .u8)) _ 22 ?hg (N' := 13) ?hd (xs := ([] : List (List Int))) (inner := []) (ok := (fun k_ => (P1_ k_ ∨ w.heap.size ≤ k_))) (okp := (fun k_ => (P1_ k_ ∨ w.heap.size ≤ k_))) ?hr ?hp (fun _ hk => hk) ((show ∀ k_, w.heap.size ≤ k_ → (fun k_ => (P1_ k_ ∨ w.heap.size ≤ k_)) k_ from fun k_ hk => (.inr (Nat.le_trans (below_size (by repeat (first | (with_reducible first | exact HB.out | apply below_alloc | apply pw_below_drewN | apply below_drew1) | exact HB.out))) hk))) _ (Nat.le_refl _)) (Below.refl _ _) (Nat.le_refl _) (by simp) ?_; (case hd => rfl); (case hg => rfl); (case hr => first | (go_simp; done) | (go_simp; rfl)); (case hp => exact (Reps.none _ _)); intro v592 w4 ho5 hb hg_ hnew_; clear hg_ hnew_; (first | rw [← Ny591.out] at ho5 | (simp only [Int.reduceToNat] at ho5; rw [← Ny591.out] at ho5)); have n0_ := Aside0.mk (Kd.V_elder' (by (with_reducible repeat (first | apply Kd.V_alloc | apply Kd.V_drewN | apply Kd.V_drew)); exact HO1.out) (Kd.N_base ho5) hb); have n1_ := Aside0.mk (Kd.N_lower ho5 (below_size (by repeat (first | (with_reducible first | exact HB.out | apply below_alloc | apply pw_below_drewN | apply below_drew1) | exact HB.out)))); have n2_ := Aside0.mk (below_step (by repeat (first | (with_reducible first | exact HB.out | apply below_alloc | apply pw_below_drewN | apply below_drew1) | exact HB.out)) hb); clear HO1; clear HB; have HO1 := n0_; have HO593 := n1_; have HB := n2_; clear n0_ n1_ n2_; clear hb ho5))
 go_loopg [6, 7] k (fun kq v6 v7 w' => ∃ (x6_1 : List (List Int)) (x7_1 : Int), v7 = .int .i64 x7_1 ∧ Aside0 (spec_l2Sectors.l0 kq a0 l1 t590 x6_1 x7_1 = some r) ∧ Aside0 (kq ≤ k) ∧ Aside0 (Kd.V (Kd.int .u8) 5 w' w.heap.size (fun k_ => (P1_ k_ ∨ w.heap.size ≤ k_) ∧ some k_ ≠ (v6 : Value).ownBlock) (.slice A1 l1.length c1) l1) ∧ Aside0 (Kd.N (Kd.slice 5 (Kd.int .u8)) 22 w' w.heap.size (fun k_ => (P1_ k_ ∨ w.heap.size ≤ k_)) v6 x6_1) ∧ Aside0 (Below w.heap.size w w'))
 case atStart => exact ⟨(y591), (0), (by first | rfl | (simp; done) | (simp [*]; done)), H', ⟨Nat.le_refl _⟩, ⟨by (with_reducible repeat (first | apply Kd.V_alloc | apply Kd.V_drewN | apply Kd.V_drew)); exact HO1.out⟩, ⟨by (with_reducible repeat (first | apply Kd.N_alloc | apply Kd.N_drewN | apply Kd.N_drew)); exact HO593.out⟩, ⟨by repeat (first | (with_reducible first | exact HB.out | apply below_alloc | apply pw_below_drewN | apply below_drew1) | exact HB.out)⟩⟩
 case round =>
  clear H'
  try clear c1
  try clear p2
  try clear c4
  obtain ⟨x6_1, x7_1, rfl, HA, HK1, HO_1, HO_6, HB⟩ := hrel
  cases gk with
  | zero => exact absurd HA.out (by simp [spec_l2Sectors.l0])
  | succ k1 =>
    have H := HA.out
    clear HA
    simp only [spec_l2Sectors.l0] at H
    by_cases c6 : x7_1 < t590
    ·rw [if_pos c6] at H
     have c6b0 : decide (x7_1 < t590) = true := decide_eq_true c6
     clear c6
     obtain ⟨ji7, hji7⟩ : ∃ j_ : Int, (wrap64 (x7_1 * 48)) = j_ := ⟨_, rfl⟩
     replace H : (if 0 ≤ (ji7) then (if (ji7) ≤ (l1.length : Int) then ((some (l1.drop ((ji7) : Int).toNat : List Int)).bind fun y594 => (if (y594.length : Int) > 48 then (if 48 ≤ (y594.length : Int) then (spec_l2Sectors.j1 k1 a0 l1 t590 x6_1 x7_1 (y594.take 48)) else (none)) else (spec_l2Sectors.j1 k1 a0 l1 t590 x6_1 x7_1 y594))) else (none)) else (none)) = some r := by first | (rw [hji7] at H; exact H) | (simp only [hji7] at H ⊢; exact H)
     have hji7w : (IntKind.i64.wrap (x7_1 * 48)) = ji7 := (i64_w _).trans hji7
     by_cases c8 : 0 ≤ (ji7)
     ·rw [if_pos c8] at H
      have c8b0 := eq_true c8
      have c8b1 : decide (0 ≤ (ji7)) = true := decide_eq_true c8
      clear c8
      by_cases c9 : (ji7) ≤ (l1.length : Int)
      ·rw [if_pos c9] at H
       have c9b0 := eq_true c9
       have c9b1 : decide ((ji7) ≤ (l1.length : Int)) = true := decide_eq_true c9
       clear c9
       obtain ⟨y594, hy594⟩ : ∃ y_ : List Int, y_ = (l1.drop ((ji7) : Int).toNat) := ⟨_, rfl⟩
       replace H : (if (y594.length : Int) > 48 then (if 48 ≤ (y594.length : Int) then (spec_l2Sectors.j1 k1 a0 l1 t590 x6_1 x7_1 (y594.take 48)) else (none)) else (spec_l2Sectors.j1 k1 a0 l1 t590 x6_1 x7_1 y594)) = some r := by first | (rw [hy594]; with_reducible exact H) | (have H2_ := (Option.bind_some _ _).symm.trans H; rw [hy594]; with_reducible exact H2_) | (have H2_ := (Option.bind_some _ _).symm.trans H; with_reducible exact H2_) | with_reducible exact H | (rw [hy594]; exact H) | exact H
       have Ny594 := Aside0.mk hy594
       clear hy594
       have HC10 := Aside0.mk H
       clear H
       have q11 : ((ji7) : Int) ≤ ((l1.length : Int) : Int) := of_decide_eq_true (by first | (with_reducible assumption) | assumption)
       obtain ⟨i011, hi011, _, hsz11, _⟩ := info_parts info5
       have hroom11 : l1.length ≤ c1 := (Kd.V_reads' HO_1.out).2.1
       have hC11 : Kd.F (Kd.int .u8) _ _ A1 l1.length l1 := (Kd.V_at (base := w.heap.size) HO_1.out).2.2
       have q011 : (0 : Int) ≤ ((ji7) : Int) := of_decide_eq_true (by first | (with_reducible assumption) | assumption)
       have hcut11 := cut_from (P := Try.prog) 22 5 .i64 Try.underlying22 hi011 1 hsz11 A1 l1.length c1 (ji7) q011 q11
       have hr11 := Kd.F_cut (m := ((ji7) : Int).toNat) (c := c1) hC11 (by omega) hroom11
       obtain ⟨A11, hA11⟩ : ∃ A1_, A1_ = (if c1 = ((ji7) : Int).toNat then A1 else (A1 : Option Addr).map (·.add (((ji7) : Int).toNat * 1))) := ⟨_, rfl⟩
       obtain ⟨c11, hc11⟩ : ∃ c1_, c1_ = c1 - ((ji7) : Int).toNat := ⟨_, rfl⟩
       have hy11 : y594.length = l1.length - ((ji7) : Int).toNat := (by rw [Ny594.out, List.length_drop] <;> omega)
       rw [show (l1).drop ((ji7) : Int).toNat = y594 from Ny594.out.symm] at hr11
       replace hr11 : Kd.F (Kd.int .u8) _ _ A11 y594.length y594 := (by rw [hA11]; exact hr11)
       rw [← hy11, ← hA11, ← hc11] at hcut11
       have HO598 := Aside0.mk (show Kd.V (Kd.int .u8) 5 _ w.heap.size _ (.slice A11 y594.length c11) y594 from Kd.V_mk (by rw [hy11, hc11]; exact Nat.sub_le_sub_right hroom11 _) hr11)
       have HC598 := Aside0.mk (show y594.length ≤ c11 from by rw [hy11, hc11]; exact Nat.sub_le_sub_right hroom11 _)
       clear hr11 hC11 hroom11 hi011 hsz11 hc11
       have KY11 := Aside0.mk hy11
       have KA11 := Aside0.mk hA11
       clear hy11 hA11
       replace q11 := eq_true q11
       go_upto_if 25 with (fail)
       go_cut [8] (fun v8 wc => ∃ (kq : Nat) (x8_9 : List Int), Aside0 (spec_l2Sectors.j1 kq a0 l1 t590 x6_1 x7_1 x8_9 = some r) ∧ Aside0 (kq ≤ k1) ∧ Aside0 (Kd.V (Kd.int .u8) 5 wc w.heap.size (fun k_ => (P1_ k_ ∨ w.heap.size ≤ k_) ∧ some k_ ≠ (u6 : Value).ownBlock) (.slice A1 l1.length c1) l1) ∧ Aside0 (Kd.N (Kd.slice 5 (Kd.int .u8)) 22 wc w.heap.size (fun k_ => (P1_ k_ ∨ w.heap.size ≤ k_)) u6 x6_1) ∧ Aside0 (Kd.V (Kd.int .u8) 5 wc w.heap.size (fun k_ => (P1_ k_ ∨ w.heap.size ≤ k_) ∧ some k_ ≠ (u6 : Value).ownBlock) v8 x8_9) ∧ Aside0 (Below w.heap.size w wc))
       case first =>
        have H := HC10.out
        clear HC10
        by_cases c12 : (y594.length : Int) > 48
        · rw [if_pos c12] at H
          have c12b0 : decide (48 < (y594.length : Int)) = true := decide_eq_true c12
          have c12b1 : decide (48 < y594.length) = true := decide_eq_true (by omega)
          clear c12
          (first | rw [c12b0] | (simp only [i64_w, i32_w]; rw [c12b0]) | skip)
          by_cases c13 : 48 ≤ (y594.length : Int)
          · rw [if_pos c13] at H
            have c13b0 := eq_true c13
            have c13b1 : decide (48 ≤ (y594.length : Int)) = true := decide_eq_true c13
            clear c13
            obtain ⟨y599, hy599⟩ : ∃ y_ : List Int, y_ = (y594.take 48) := ⟨_, rfl⟩
            replace H : (spec_l2Sectors.j1 k1 a0 l1 t590 x6_1 x7_1 y599) = some r := by first | (rw [hy599]; with_reducible exact H) | (have H2_ := (Option.bind_some _ _).symm.trans H; rw [hy599]; with_reducible exact H2_) | (have H2_ := (Option.bind_some _ _).symm.trans H; with_reducible exact H2_) | with_reducible exact H | (rw [hy599]; exact H) | exact H
            have Ny599 := Aside0.mk hy599
            clear hy599
            have H' := Aside0.mk H
            clear H
            have q14 : (48 : Int) ≤ ((y594.length : Int) : Int) := of_decide_eq_true (by first | (with_reducible assumption) | assumption)
            obtain ⟨i014, hi014, _, hsz14, _⟩ := info_parts info5
            have hroom14 : y594.length ≤ c11 := (Kd.V_reads' HO598.out).2.1
            have hC14 : Kd.F (Kd.int .u8) _ _ A11 y594.length y594 := (Kd.V_at (base := w.heap.size) HO598.out).2.2
            have hcut14 := cut_to (P := Try.prog) 22 5 .i64 Try.underlying22 hi014 A11 y594.length c11 48 (by omega) q14 hroom14
            have hr14 := Kd.F_take (m := 48) hC14 (by omega)
            have hy14 : y599.length = (48 : Int).toNat := (by rw [Ny599.out, List.length_take]; omega)
            rw [← Ny599.out] at hr14
            rw [← hy14] at hcut14
            have HO603 := Aside0.mk (show Kd.V (Kd.int .u8) 5 _ w.heap.size _ (.slice A11 y599.length c11) y599 from Kd.V_mk (by omega) hr14)
            have HC603 := Aside0.mk (show y599.length ≤ c11 from by omega)
            clear hr14 hC14 hroom14 hi014 hsz14
            have KY14 := Aside0.mk hy14
            clear hy14
            replace q14 := eq_true q14
            go_wp2
            go_meet
            case rel => exact ⟨_, (y599), H', ⟨by have := HK1.out; first | omega | exact Nat.le_refl _⟩, ⟨by (with_reducible repeat (first | apply Kd.V_alloc | apply Kd.V_drewN | apply Kd.V_drew)); exact HO_1.out⟩, ⟨by (with_reducible repeat (first | apply Kd.N_alloc | apply Kd.N_drewN | apply Kd.N_drew)); exact HO_6.out⟩, ⟨by (with_reducible repeat (first | apply Kd.V_alloc | apply Kd.V_drewN | apply Kd.V_drew)); exact HO603.out⟩, ⟨by repeat (first | (with_reducible first | exact HB.out | apply below_alloc | apply pw_below_drewN | apply below_drew1) | exact HB.out)⟩⟩
          · rw [if_neg c13] at H
            exact absurd H (by simp)
        · rw [if_neg c12] at H
          have c12b0 : decide (48 < (y594.length : Int)) = false := decide_eq_false c12
          have c12b1 : decide (48 < y594.length) = false := decide_eq_false (by omega)
          clear c12
          (first | rw [c12b0] | (simp only [i64_w, i32_w]; rw [c12b0]) | skip)
          have H' := Aside0.mk H
          clear H
          go_wp2
          go_meet
          case rel => exact ⟨_, (y594), H', ⟨by have := HK1.out; first | omega | exact Nat.le_refl _⟩, ⟨by (with_reducible repeat (first | apply Kd.V_alloc | apply Kd.V_drewN | apply Kd.V_drew)); exact HO_1.out⟩, ⟨by (with_reducible repeat (first | apply Kd.N_alloc | apply Kd.N_drewN | apply Kd.N_drew)); exact HO_6.out⟩, ⟨by (with_reducible repeat (first | apply Kd.V_alloc | apply Kd.V_drewN | apply Kd.V_drew)); exact HO598.out⟩, ⟨by repeat (first | (with_reducible first | exact HB.out | apply below_alloc | apply pw_below_drewN | apply below_drew1) | exact HB.out)⟩⟩
       case rest =>
        clear HC10
        try clear c1
        try clear q1
        try clear p2
        try clear c4
        try clear c6
        try clear c6b0
        try clear p6
        try clear c8
        try clear c8b0
        try clear c8b1
        try clear c9
        try clear c9b0
        try clear c9b1
        try clear c11
        try clear q11
        try clear c12
        try clear c12b0
        try clear c12b1
        try clear c13
        try clear c13b0
        try clear c13b1
        try clear q14
        try clear p2
        try clear q011
        try clear q11
        try clear q14
        obtain ⟨kq, x8_9, HA, HJ9, HO_1, HO_6, HO_8, HB⟩ := hcut
        cases kq with
        | zero => exact absurd HA.out (by simp [spec_l2Sectors.j1])
        | succ kj9 =>
          have H := HA.out
          clear HA
          simp only [spec_l2Sectors.j1] at H
          replace H := Option.bind_eq_some_iff.mp H
          obtain ⟨t604, A150, H⟩ := H
          replace H : ((spec_l2Put.f kj9 x7_1 2).bind fun t607 => ((spec_l2Put.f kj9 t590 2).bind fun t610 => ((spec_l2Put.f kj9 (x8_9.length : Int) 2).bind fun t613 => ((spec_l2Cat.f kj9 (([t604, t607, t610, t613, (([82, 49] : List Int))] : List (List Int)))).bind fun t622 => ((spec_l1Zeros.f kj9 (wrap64 (48 - (x8_9.length : Int)))).bind fun t625 => ((spec_l2Cat.f kj9 (([t622, x8_9, t625] : List (List Int)))).bind fun t631 => ((spec_l2Seal.f kj9 t631).bind fun t634 => (if x6_1.length < 5864062014805 then (spec_l2Sectors.l0 kj9 a0 l1 t590 (x6_1 ++ [t634]) (wrap64 (x7_1 + 1))) else (none))))))))) = some r := H
          have A15 := Aside0.mk A150
          clear A150
          replace H := Option.bind_eq_some_iff.mp H
          obtain ⟨t607, A160, H⟩ := H
          replace H : ((spec_l2Put.f kj9 t590 2).bind fun t610 => ((spec_l2Put.f kj9 (x8_9.length : Int) 2).bind fun t613 => ((spec_l2Cat.f kj9 (([t604, t607, t610, t613, (([82, 49] : List Int))] : List (List Int)))).bind fun t622 => ((spec_l1Zeros.f kj9 (wrap64 (48 - (x8_9.length : Int)))).bind fun t625 => ((spec_l2Cat.f kj9 (([t622, x8_9, t625] : List (List Int)))).bind fun t631 => ((spec_l2Seal.f kj9 t631).bind fun t634 => (if x6_1.length < 5864062014805 then (spec_l2Sectors.l0 kj9 a0 l1 t590 (x6_1 ++ [t634]) (wrap64 (x7_1 + 1))) else (none)))))))) = some r := H
          have A16 := Aside0.mk A160
          clear A160
          replace H := Option.bind_eq_some_iff.mp H
          obtain ⟨t610, A170, H⟩ := H
          replace H : ((spec_l2Put.f kj9 (x8_9.length : Int) 2).bind fun t613 => ((spec_l2Cat.f kj9 (([t604, t607, t610, t613, (([82, 49] : List Int))] : List (List Int)))).bind fun t622 => ((spec_l1Zeros.f kj9 (wrap64 (48 - (x8_9.length : Int)))).bind fun t625 => ((spec_l2Cat.f kj9 (([t622, x8_9, t625] : List (List Int)))).bind fun t631 => ((spec_l2Seal.f kj9 t631).bind fun t634 => (if x6_1.length < 5864062014805 then (spec_l2Sectors.l0 kj9 a0 l1 t590 (x6_1 ++ [t634]) (wrap64 (x7_1 + 1))) else (none))))))) = some r := H
          have A17 := Aside0.mk A170
          clear A170
          replace H := Option.bind_eq_some_iff.mp H
          obtain ⟨t613, A180, H⟩ := H
          replace H : ((spec_l2Cat.f kj9 (([t604, t607, t610, t613, (([82, 49] : List Int))] : List (List Int)))).bind fun t622 => ((spec_l1Zeros.f kj9 (wrap64 (48 - (x8_9.length : Int)))).bind fun t625 => ((spec_l2Cat.f kj9 (([t622, x8_9, t625] : List (List Int)))).bind fun t631 => ((spec_l2Seal.f kj9 t631).bind fun t634 => (if x6_1.length < 5864062014805 then (spec_l2Sectors.l0 kj9 a0 l1 t590 (x6_1 ++ [t634]) (wrap64 (x7_1 + 1))) else (none)))))) = some r := H
          have A18 := Aside0.mk A180
          clear A180
          obtain ⟨y616, hy616⟩ : ∃ y_ : List Int, y_ = (([82, 49] : List Int)) := ⟨_, rfl⟩
          replace H : ((spec_l2Cat.f kj9 (([t604, t607, t610, t613, y616] : List (List Int)))).bind fun t622 => ((spec_l1Zeros.f kj9 (wrap64 (48 - (x8_9.length : Int)))).bind fun t625 => ((spec_l2Cat.f kj9 (([t622, x8_9, t625] : List (List Int)))).bind fun t631 => ((spec_l2Seal.f kj9 t631).bind fun t634 => (if x6_1.length < 5864062014805 then (spec_l2Sectors.l0 kj9 a0 l1 t590 (x6_1 ++ [t634]) (wrap64 (x7_1 + 1))) else (none)))))) = some r := by first | (rw [hy616]; with_reducible exact H) | (have H2_ := (Option.bind_some _ _).symm.trans H; rw [hy616]; with_reducible exact H2_) | (have H2_ := (Option.bind_some _ _).symm.trans H; with_reducible exact H2_) | with_reducible exact H | (rw [hy616]; exact H) | exact H
          have Ny616 := Aside0.mk hy616
          clear hy616
          obtain ⟨y619, hy619⟩ : ∃ y_ : List (List Int), y_ = (([t604, t607, t610, t613, y616] : List (List Int))) := ⟨_, rfl⟩
          replace H : ((spec_l2Cat.f kj9 y619).bind fun t622 => ((spec_l1Zeros.f kj9 (wrap64 (48 - (x8_9.length : Int)))).bind fun t625 => ((spec_l2Cat.f kj9 (([t622, x8_9, t625] : List (List Int)))).bind fun t631 => ((spec_l2Seal.f kj9 t631).bind fun t634 => (if x6_1.length < 5864062014805 then (spec_l2Sectors.l0 kj9 a0 l1 t590 (x6_1 ++ [t634]) (wrap64 (x7_1 + 1))) else (none)))))) = some r := by first | (rw [hy619]; with_reducible exact H) | (have H2_ := (Option.bind_some _ _).symm.trans H; rw [hy619]; with_reducible exact H2_) | (have H2_ := (Option.bind_some _ _).symm.trans H; with_reducible exact H2_) | with_reducible exact H | (rw [hy619]; exact H) | exact H
          have Ny619 := Aside0.mk hy619
          clear hy619
          replace H := Option.bind_eq_some_iff.mp H
          obtain ⟨t622, A190, H⟩ := H
          replace H : ((spec_l1Zeros.f kj9 (wrap64 (48 - (x8_9.length : Int)))).bind fun t625 => ((spec_l2Cat.f kj9 (([t622, x8_9, t625] : List (List Int)))).bind fun t631 => ((spec_l2Seal.f kj9 t631).bind fun t634 => (if x6_1.length < 5864062014805 then (spec_l2Sectors.l0 kj9 a0 l1 t590 (x6_1 ++ [t634]) (wrap64 (x7_1 + 1))) else (none))))) = some r := H
          have A19 := Aside0.mk A190
          clear A190
          replace H := Option.bind_eq_some_iff.mp H
          obtain ⟨t625, A200, H⟩ := H
          replace H : ((spec_l2Cat.f kj9 (([t622, x8_9, t625] : List (List Int)))).bind fun t631 => ((spec_l2Seal.f kj9 t631).bind fun t634 => (if x6_1.length < 5864062014805 then (spec_l2Sectors.l0 kj9 a0 l1 t590 (x6_1 ++ [t634]) (wrap64 (x7_1 + 1))) else (none)))) = some r := H
          have A20 := Aside0.mk A200
          clear A200
          obtain ⟨y628, hy628⟩ : ∃ y_ : List (List Int), y_ = (([t622, x8_9, t625] : List (List Int))) := ⟨_, rfl⟩
          replace H : ((spec_l2Cat.f kj9 y628).bind fun t631 => ((spec_l2Seal.f kj9 t631).bind fun t634 => (if x6_1.length < 5864062014805 then (spec_l2Sectors.l0 kj9 a0 l1 t590 (x6_1 ++ [t634]) (wrap64 (x7_1 + 1))) else (none)))) = some r := by first | (rw [hy628]; with_reducible exact H) | (have H2_ := (Option.bind_some _ _).symm.trans H; rw [hy628]; with_reducible exact H2_) | (have H2_ := (Option.bind_some _ _).symm.trans H; with_reducible exact H2_) | with_reducible exact H | (rw [hy628]; exact H) | exact H
          have Ny628 := Aside0.mk hy628
          clear hy628
          replace H := Option.bind_eq_some_iff.mp H
          obtain ⟨t631, A210, H⟩ := H
          replace H : ((spec_l2Seal.f kj9 t631).bind fun t634 => (if x6_1.length < 5864062014805 then (spec_l2Sectors.l0 kj9 a0 l1 t590 (x6_1 ++ [t634]) (wrap64 (x7_1 + 1))) else (none))) = some r := H
          have A21 := Aside0.mk A210
          clear A210
          replace H := Option.bind_eq_some_iff.mp H
          obtain ⟨t634, A220, H⟩ := H
          replace H : (if x6_1.length < 5864062014805 then (spec_l2Sectors.l0 kj9 a0 l1 t590 (x6_1 ++ [t634]) (wrap64 (x7_1 + 1))) else (none)) = some r := H
          have A22 := Aside0.mk A220
          clear A220
          by_cases c23 : x6_1.length < 5864062014805
          · rw [if_pos c23] at H
            have LMc23 := Aside0.mk c23
            clear c23
            obtain ⟨y637, hy637⟩ : ∃ y_ : List (List Int), y_ = (x6_1 ++ [t634]) := ⟨_, rfl⟩
            replace H : (spec_l2Sectors.l0 kj9 a0 l1 t590 y637 (wrap64 (x7_1 + 1))) = some r := by first | (rw [hy637]; with_reducible exact H) | (have H2_ := (Option.bind_some _ _).symm.trans H; rw [hy637]; with_reducible exact H2_) | (have H2_ := (Option.bind_some _ _).symm.trans H; with_reducible exact H2_) | with_reducible exact H | (rw [hy637]; exact H) | exact H
            have Ny637 := Aside0.mk hy637
            clear hy637
            have H' := Aside0.mk H
            clear H
            obtain ⟨Ao27, co27, eo27⟩ := Kd.V_slice HO_8.out
            subst eo27
            have H0 := Aside0.mk (Below.refl wc.heap.size wc)
            have XR := Aside0.mk (show RW wc Ao27 co27 x8_9 from ⟨(Kd.V_reads' HO_8.out).2.1, (Kd.V_reads' HO_8.out).2.2⟩)
            clear HO_8
            go_wp2_with fail
            refine (spec_l2Put.calls kj9 a0 4 t604 _ A15.out).mono ?_
            rintro e W1 ⟨v_, rfl, ho0, hb⟩
            obtain ⟨B1, d1, rfl⟩ := Kd.R_slice ho0
            have F1 := Aside0.mk (RW.of_R ho0)
            replace H0 := Aside0.mk (below_step H0.out hb)
            clear ho0 hb
            go_wp2_with fail
            refine (spec_l2Put.calls kj9 x7_1 2 t607 _ A16.out).mono ?_
            rintro e W2 ⟨v_, rfl, ho0, hb⟩
            obtain ⟨B2, d2, rfl⟩ := Kd.R_slice ho0
            have F2 := Aside0.mk (RW.of_R ho0)
            replace F1 := Aside0.mk (F1.out.below hb)
            replace H0 := Aside0.mk (below_step H0.out hb)
            clear ho0 hb
            go_wp2_with fail
            refine (spec_l2Put.calls kj9 t590 2 t610 _ A17.out).mono ?_
            rintro e W3 ⟨v_, rfl, ho0, hb⟩
            obtain ⟨B3, d3, rfl⟩ := Kd.R_slice ho0
            have F3 := Aside0.mk (RW.of_R ho0)
            replace F1 := Aside0.mk (F1.out.below hb)
            replace F2 := Aside0.mk (F2.out.below hb)
            replace H0 := Aside0.mk (below_step H0.out hb)
            clear ho0 hb
            go_wp2_with fail
            refine (spec_l2Put.calls kj9 (x8_9.length : Int) 2 t613 _ A18.out).mono ?_
            rintro e W4 ⟨v_, rfl, ho0, hb⟩
            obtain ⟨B4, d4, rfl⟩ := Kd.R_slice ho0
            have F4 := Aside0.mk (RW.of_R ho0)
            replace F1 := Aside0.mk (F1.out.below hb)
            replace F2 := Aside0.mk (F2.out.below hb)
            replace F3 := Aside0.mk (F3.out.below hb)
            replace H0 := Aside0.mk (below_step H0.out hb)
            clear ho0 hb
            have hlit : LitB (W4.alloc (.cells #[.int .u8 82, .int .u8 49] 5)) wc.heap.size W4.heap.size [82, 49] false := LitB.made (base := wc.heap.size) W4 [82, 49] H0.out.size
            have hmk : (convert 22 22 (.slice (some ⟨W4.heap.size, 0, none⟩) 2 2)).run Try.prog (W4.alloc (.cells #[.int .u8 82, .int .u8 49] 5)) = .ok (.slice (some ⟨W4.heap.size, 0, none⟩) 2 2) ((W4.alloc (.cells #[.int .u8 82, .int .u8 49] 5)).freeze ⟨W4.heap.size, 2, none⟩ 1) := mark_run 22 2 2 Try.underlying22 hlit
            have hb1 := below_alloc (Below.refl W4.heap.size W4) (.cells #[.int .u8 82, .int .u8 49] 5)
            have F5 := Aside0.mk (show RW ((W4.alloc (.cells #[.int .u8 82, .int .u8 49] 5)).freeze ⟨W4.heap.size, 2, none⟩ 1) (some ⟨W4.heap.size, 0, none⟩) 2 y616 by rw [Ny616.out]; exact (mark_self hlit).rw (by decide))
            have hl5 : y616.length = 2 := by rw [Ny616.out]; rfl
            replace F1 := Aside0.mk ((F1.out.below hb1).mark hlit)
            replace F2 := Aside0.mk ((F2.out.below hb1).mark hlit)
            replace F3 := Aside0.mk ((F3.out.below hb1).mark hlit)
            replace F4 := Aside0.mk ((F4.out.below hb1).mark hlit)
            replace H0 := Aside0.mk (below_mark (by have := H0.out.size; omega) (below_step H0.out hb1) hlit)
            have HL5 := Aside0.mk hl5
            go_wp2_with fail
            clear hmk hb1 hlit hl5
            generalize ((W4.alloc (.cells #[.int .u8 82, .int .u8 49] 5)).freeze ⟨W4.heap.size, 2, none⟩ 1) = W5 at *
            generalize W4.heap.size = g5 at *
            have h5 : y619.length = 5 := by rw [Ny619.out]; rfl
            have hM : RWs (W5.alloc (.cells #[.slice B1 t604.length d1, .slice B2 t607.length d2, .slice B3 t610.length d3, .slice B4 t613.length d4, .slice (some ⟨g5, 0, none⟩) 2 2] 22)) W5.heap.size y619 := by
             rw [Ny619.out]
             refine RWs.made W5 _ [.slice B1 t604.length d1, .slice B2 t607.length d2, .slice B3 t610.length d3, .slice B4 t613.length d4, .slice (some ⟨g5, 0, none⟩) 2 2] (by simp) rfl (fun j xs hj => ?_)
             match j, hj with
             | 0, hj => exact ⟨_, _, by cases hj; rfl, by cases hj; exact F1.out⟩
             | 1, hj => exact ⟨_, _, by cases hj; rfl, by cases hj; exact F2.out⟩
             | 2, hj => exact ⟨_, _, by cases hj; rfl, by cases hj; exact F3.out⟩
             | 3, hj => exact ⟨_, _, by cases hj; rfl, by cases hj; exact F4.out⟩
             | 4, hj => exact ⟨some ⟨g5, 0, none⟩, 2, by cases hj; show some (Value.slice (some ⟨g5, 0, none⟩) 2 2) = some (Value.slice (some ⟨g5, 0, none⟩) y616.length 2); rw [HL5.out], by cases hj; exact F5.out⟩
             | _ + 5, hj => simp at hj
            have hcat := spec_l2Cat.calls kj9 (some ⟨W5.heap.size, 0, none⟩) 5 y619 t622 _ hM (by rw [h5]; exact Nat.le_refl _) A19.out
            rw [h5] at hcat
            refine hcat.mono ?_
            rintro e W6 ⟨v_, rfl, ho0, hb⟩
            obtain ⟨B6, d6, rfl⟩ := Kd.R_slice ho0
            have F6 := Aside0.mk (RW.of_R ho0)
            replace H0 := Aside0.mk (below_step (below_alloc H0.out _) hb)
            clear ho0 hb hM hcat F1 F2 F3 F4 F5
            go_wp2_with fail
            refine (spec_l1Zeros.calls kj9 (wrap64 (48 - (x8_9.length : Int))) t625 _ A20.out).mono ?_
            rintro e W7 ⟨v_, rfl, ho0, hb⟩
            obtain ⟨B7, d7, rfl⟩ := Kd.R_slice ho0
            have F7 := Aside0.mk (RW.of_R ho0)
            replace F6 := Aside0.mk (F6.out.below hb)
            replace H0 := Aside0.mk (below_step H0.out hb)
            clear ho0 hb
            go_wp2_with fail
            have h3 : y628.length = 3 := by rw [Ny628.out]; rfl
            have hM : RWs (W7.alloc (.cells #[.slice B6 t622.length d6, .slice Ao27 x8_9.length co27, .slice B7 t625.length d7] 22)) W7.heap.size y628 := by
             rw [Ny628.out]
             refine RWs.made W7 _ [.slice B6 t622.length d6, .slice Ao27 x8_9.length co27, .slice B7 t625.length d7] (by simp) rfl (fun j xs hj => ?_)
             match j, hj with
             | 0, hj => exact ⟨_, _, by cases hj; rfl, by cases hj; exact F6.out⟩
             | 1, hj => exact ⟨_, _, by cases hj; rfl, by cases hj; exact XR.out.below H0.out⟩
             | 2, hj => exact ⟨_, _, by cases hj; rfl, by cases hj; exact F7.out⟩
             | _ + 3, hj => simp at hj
            have hcat := spec_l2Cat.calls kj9 (some ⟨W7.heap.size, 0, none⟩) 3 y628 t631 _ hM (by rw [h3]; exact Nat.le_refl _) A21.out
            rw [h3] at hcat
            refine hcat.mono ?_
            rintro e W8 ⟨v_, rfl, ho0, hb⟩
            obtain ⟨B8, d8, rfl⟩ := Kd.R_slice ho0
            have HV := Aside0.mk (show Kd.V (Kd.int .u8) 5 W8 W8.heap.size (fun _ => True) (.slice B8 t631.length d8) t631 from Kd.R_V ho0)
            replace H0 := Aside0.mk (below_step (below_alloc H0.out _) hb)
            clear ho0 hb hM hcat F6 F7 XR
            go_wp2_with fail
            refine (spec_l2Seal.calls kj9 (fun _ => True) B8 d8 t631 t634 _ HV.out A22.out).mono ?_
            rintro e W9 ⟨v_, rfl, ho0, hb⟩
            obtain ⟨B9, d9, rfl⟩ := Kd.R_slice ho0
            have hs8 := H0.out.size
            replace H0 := Aside0.mk (below_step H0.out hb)
            have hR := Aside0.mk ho0
            have hsw := HB.out.size
            have hN := Kd.N_below HO_6.out H0.out
            have hV := Kd.V_below HO_1.out H0.out
            have hlt6 := Kd.N_lt HO_6.out
            have hE : Kd.R (Kd.int .u8) 5 W9 W8.heap.size (fun k_ => (P1_ k_ ∨ w.heap.size ≤ k_) ∧ some k_ ≠ (u6 : Value).ownBlock) (.slice B9 t634.length d9) t634 := Kd.R_mono ho0 (fun k_ hk => ⟨.inr (by omega), fun he => by have := hlt6 k_ he.symm; omega⟩)
            have HN := Aside0.mk hN
            have HV2 := Aside0.mk hV
            have HE := Aside0.mk hE
            have HBW := Aside0.mk (below_step HB.out H0.out)
            clear ho0 hb hN hV hE HV
            go_wp2_with ((with_reducible refine gate_builtin (b := .append) (xs := #[.tmp 41, .tmp 51]) rfl ?_); at_builtin; refine Kd.N_append (Kd.slice 5 (Kd.int .u8)) (w0 := w) w.heap.size rfl (.tmp 41) (.tmp 51) 98 22 (.slice none 0 0) 24 rfl Try.underlying98 info22 rfl (by decide) (by omega) u6 x6_1 t634 [.slice B9 t634.length d9] (fun k_ => (P1_ k_ ∨ w.heap.size ≤ k_)) (fun k_ => (P1_ k_ ∨ w.heap.size ≤ k_) ∧ some k_ ≠ (u6 : Value).ownBlock) rfl rfl ?aP (fun _ hk => hk) ?aF ?aO ?aB ?aS ?aL ?_; (case aP => exact Kd.FK_slice_mk (Kd.R_reads' HE.out).2.1 (Kd.R_F HE.out)); (case aB => exact HBW.out); (case aF => exact fun k_ hk => .inr (Nat.le_trans HBW.out.size hk)); (case aO => exact HN.out); (case aS => exact HBW.out.size); (case aL => have := LMc23.out; omega); intro v638 w49 ho hb hg hat; rw [← Ny637.out] at ho; have n0_ := Aside0.mk (Kd.V_afterv (ok := (fun k_ => (P1_ k_ ∨ w.heap.size ≤ k_))) HV2.out hg hat); have n1_ := Aside0.mk ho; have n2_ := Aside0.mk hb; clear HO_1; clear HB; clear HO_6; have HO_1 := n0_; have HO639 := n1_; have HB := n2_; clear n0_ n1_ n2_; clear ho hb hg hat HN HV2 HE HBW)
            go_roundg kj9
            case measure => have := HK1.out; have := HJ9.out; omega
            case rel => exact ⟨(y637), (wrap64 (x7_1 + 1)), (by first | rfl | (simp; done) | (simp [*]; done)), H', ⟨by have := HK1.out; have := HJ9.out; omega⟩, HO_1, HO639, HB⟩
          · rw [if_neg c23] at H
            exact absurd H (by simp)
      ·rw [if_neg c9] at H
       exact absurd H (by simp)
     ·rw [if_neg c8] at H
      exact absurd H (by simp)
    ·rw [if_neg c6] at H
     have c6b0 : decide (x7_1 < t590) = false := decide_eq_false c6
     clear c6
     obtain rfl := Option.some.inj H
     go_wp2
     go_ret
     exact ⟨_, by first | rfl | (simp [errW_none, errW_some] <;> rfl) | (simp [*, errW_none, errW_some] <;> rfl), by (with_reducible repeat (first | apply Kd.N_alloc | apply Kd.N_drewN | apply Kd.N_drew)); exact HO_6.out, by repeat (first | (with_reducible first | exact HB.out | apply below_alloc | apply pw_below_drewN | apply below_drew1) | exact HB.out)⟩

/-! ### yL_gN: a text by hand -/
def gN (x : Int) : Bool := decide (1 ≤ x) && decide (x ≤ 2000000000)
theorem goodN_eq (x : Int) : impl_goodNumber.f x = some (gN x) := by
 unfold impl_goodNumber.f gN
 by_cases h1 : 1 ≤ x
 ·rw [if_pos (by omega), decide_eq_true h1, Bool.true_and]
 ·rw [if_neg (by omega), decide_eq_false h1, Bool.false_and]
/-- What of a sector is its record's. -/
theorem specNum_eq (x : Int) : spec_l2Number.f x = some (gN x) := by
 unfold spec_l2Number.f gN
 by_cases h1 : 1 ≤ x
 ·rw [if_pos (by omega), decide_eq_true h1, Bool.true_and]
 ·rw [if_neg (by omega), decide_eq_false h1, Bool.false_and]

/-! ### yimpl_piece: a text by hand -/
-- import Derived.StillTailTactics
-- import Derived.Laws.CopyOwn
-- import Derived.Laws.CopyRow
-- import Derived.Laws.IdiomCopy
-- import Derived.Lib.BufferWrite
theorem r1_row : ∀ (x : List Int), 12 ≤ x.length → ((x.map (Value.int .u8)).toArray.toList.take 10 ++ Go.Lib.byteCells (⟨#[82, 49]⟩ : ByteArray).data.toList ++ (x.map (Value.int .u8)).toArray.toList.drop (10 + (⟨#[82, 49]⟩ : ByteArray).size)) = ((x.set 10 82).set 11 49).map (Value.int .u8)
 | a0 :: a1 :: a2 :: a3 :: a4 :: a5 :: a6 :: a7 :: a8 :: a9 :: a10 :: a11 :: t, _ => rfl
 | [], h => by simp at h
 | [_], h => by simp at h
 | [_, _], h => by simp at h
 | [_, _, _], h => by simp at h
 | [_, _, _, _], h => by simp at h
 | [_, _, _, _, _], h => by simp at h
 | [_, _, _, _, _, _], h => by simp at h
 | [_, _, _, _, _, _, _], h => by simp at h
 | [_, _, _, _, _, _, _, _], h => by simp at h
 | [_, _, _, _, _, _, _, _, _], h => by simp at h
 | [_, _, _, _, _, _, _, _, _, _], h => by simp at h
 | [_, _, _, _, _, _, _, _, _, _, _], h => by simp at h
def cp12 (x part : List Int) : List Int := x.take 12 ++ part ++ x.drop (12 + part.length)
def pHead (seq i k n : Int) : Option (List Int) := (impl_put.f 5 (List.replicate 64 0) 0 4 seq).bind fun x1 => (impl_put.f 5 x1 4 2 i).bind fun x2 => (impl_put.f 5 x2 6 2 k).bind fun x3 => impl_put.f 5 x3 8 2 n
def cPiece (kc : Nat) (seq i k : Int) (part : List Int) : Option (List Int) := (pHead seq i k part.length).bind fun x => (spec_Crc32.f kc ((cp12 ((x.set 10 82).set 11 49) part).take 60)).bind fun cr => impl_put.f 5 (cp12 ((x.set 10 82).set 11 49) part) 60 4 cr
theorem cp12_len (x part : List Int) (h : x.length = 64) (hp : part.length ≤ 48) : (cp12 x part).length = 64 := by
 simp [cp12]
 omega
set_option maxHeartbeats 4000000 in
set_option maxRecDepth 100000 in
/-- piece: a sector of a record. -/
theorem impl_piece_arr (kc : Nat) (seq i k : Int) (A : Option Addr) (c : Nat) (part : List Int) (r : List Int) (w : World) (hr0 : Kd.C (Kd.int .u8) w A part.length part) (hc0 : part.length ≤ c) (hp : part.length ≤ 48) (h : cPiece kc seq i k part = some r) (hcr : ∀ (l : List Int) (c : Int), l.length ≤ 60 → spec_Crc32.f kc l = some c → 0 ≤ c ∧ c < 4294967296) :
  Calls Try.prog 72 #[.int .i64 seq, .int .i64 i, .int .i64 k, .slice A part.length c] w fun e w' => e = .returned (.agg (r.map (Value.int .u8)).toArray) ∧ r.length = 64 ∧ Below w.heap.size w w' := by
 unfold cPiece pHead at h
 obtain ⟨x4, h0, h⟩ := Option.bind_eq_some_iff.1 h
 obtain ⟨x1, h1, h0⟩ := Option.bind_eq_some_iff.1 h0
 obtain ⟨x2, h2, h0⟩ := Option.bind_eq_some_iff.1 h0
 obtain ⟨x3, h3, h4⟩ := Option.bind_eq_some_iff.1 h0
 obtain ⟨cr, h5, h6⟩ := Option.bind_eq_some_iff.1 h
 have A1_ := Aside0.mk h1
 have A2_ := Aside0.mk h2
 have A3_ := Aside0.mk h3
 have A4_ := Aside0.mk h4
 have A5_ := Aside0.mk h5
 have A6_ := Aside0.mk h6
 have AC_ := Aside0.mk (hcr _ _ (by rw [List.length_take]; omega) h5)
 have HR := Aside0.mk hr0
 have HC := Aside0.mk hc0
 have HP := Aside0.mk hp
 clear h h0 h1 h2 h3 h4 h5 h6 hcr hr0 hc0
 have HB := Aside0.mk (Below.refl w.heap.size w)
 go_enter Try.func72, Try.ntmps72
 go_wp2_with fail
 obtain ⟨zs, hzs⟩ : ∃ zs : List Int, zs = List.replicate 64 0 := ⟨_, rfl⟩
 have hzl : zs.length = 64 := by rw [hzs]; rfl
 change Calls _ _ _ ((w.alloc (.cells ((List.replicate 64 (0 : Int)).map (Value.int .u8)).toArray 84)).alloc (.cells ((List.replicate 64 (0 : Int)).map (Value.int .u8)).toArray 84)) _
 rw [← hzs] at A1_ ⊢
 have K1 := Aside0.mk (blk_alloc (blk_new w (.cells (zs.map (Value.int .u8)).toArray 84)) (.cells (zs.map (Value.int .u8)).toArray 84))
 have K2 := Aside0.mk (blk_new (w.alloc (.cells (zs.map (Value.int .u8)).toArray 84)) (.cells (zs.map (Value.int .u8)).toArray 84))
 simp only [World.size_alloc] at K2
 replace HB := Aside0.mk (below_alloc (below_alloc HB.out (.cells (zs.map (Value.int .u8)).toArray 84)) (.cells (zs.map (Value.int .u8)).toArray 84))
 generalize ((w.alloc (.cells (zs.map (Value.int .u8)).toArray 84)).alloc (.cells (zs.map (Value.int .u8)).toArray 84)) = W0 at *
 have hput := impl_put_arr 5 84 (w.heap.size + 1) 64 zs 0 4 seq x1 W0 K2.out A1_.out
 rw [hzl] at hput
 refine hput.mono ?_
 rintro e w9 ⟨rfl, hlx1, rfl⟩
 replace K1 := Aside0.mk ((setRow_other W0 (w.heap.size + 1) _ (x1.map (Value.int .u8)).toArray (by omega)).trans K1.out)
 replace K2 := Aside0.mk (setRow_heap W0 (w.heap.size + 1) _ (x1.map (Value.int .u8)).toArray 84 (0, 0) K2.out)
 replace HB := Aside0.mk (below_setRow (g := w.heap.size + 1) HB.out (by omega) (x1.map (Value.int .u8)).toArray)
 clear hput
 generalize W0.setRow (w.heap.size + 1) (x1.map (Value.int .u8)).toArray = W1 at *
 go_wp2_with fail
 have hput := impl_put_arr 5 84 (w.heap.size + 1) 64 x1 4 2 i x2 W1 K2.out A2_.out
 rw [hlx1] at hput
 refine hput.mono ?_
 rintro e w9 ⟨rfl, hlx2, rfl⟩
 replace K1 := Aside0.mk ((setRow_other W1 (w.heap.size + 1) _ (x2.map (Value.int .u8)).toArray (by omega)).trans K1.out)
 replace K2 := Aside0.mk (setRow_heap W1 (w.heap.size + 1) _ (x2.map (Value.int .u8)).toArray 84 (0, 0) K2.out)
 replace HB := Aside0.mk (below_setRow (g := w.heap.size + 1) HB.out (by omega) (x2.map (Value.int .u8)).toArray)
 clear hput
 generalize W1.setRow (w.heap.size + 1) (x2.map (Value.int .u8)).toArray = W2 at *
 go_wp2_with fail
 have hput := impl_put_arr 5 84 (w.heap.size + 1) 64 x2 6 2 k x3 W2 K2.out A3_.out
 rw [hlx2] at hput
 refine hput.mono ?_
 rintro e w9 ⟨rfl, hlx3, rfl⟩
 replace K1 := Aside0.mk ((setRow_other W2 (w.heap.size + 1) _ (x3.map (Value.int .u8)).toArray (by omega)).trans K1.out)
 replace K2 := Aside0.mk (setRow_heap W2 (w.heap.size + 1) _ (x3.map (Value.int .u8)).toArray 84 (0, 0) K2.out)
 replace HB := Aside0.mk (below_setRow (g := w.heap.size + 1) HB.out (by omega) (x3.map (Value.int .u8)).toArray)
 clear hput
 generalize W2.setRow (w.heap.size + 1) (x3.map (Value.int .u8)).toArray = W3 at *
 go_wp2_with fail
 have hput := impl_put_arr 5 84 (w.heap.size + 1) 64 x3 8 2 (part.length : Int) x4 W3 K2.out A4_.out
 rw [hlx3] at hput
 refine hput.mono ?_
 rintro e w9 ⟨rfl, hlx4, rfl⟩
 replace K1 := Aside0.mk ((setRow_other W3 (w.heap.size + 1) _ (x4.map (Value.int .u8)).toArray (by omega)).trans K1.out)
 replace K2 := Aside0.mk (setRow_heap W3 (w.heap.size + 1) _ (x4.map (Value.int .u8)).toArray 84 (0, 0) K2.out)
 replace HB := Aside0.mk (below_setRow (g := w.heap.size + 1) HB.out (by omega) (x4.map (Value.int .u8)).toArray)
 clear hput
 generalize W3.setRow (w.heap.size + 1) (x4.map (Value.int .u8)).toArray = W4 at *
 go_wp2_with fail
 have hcp := Go.Lib.run_copy_row_string (P := Try.prog) W4 22 9 3 5 (w.heap.size + 1) 10 54 54 ⟨#[82, 49]⟩ _ 84 Try.underlying22 rfl K2.out (by decide) (by simp [hlx4]; decide)
 rw [r1_row x4 (by omega)] at hcp
 rw [hcp]
 simp only [Result.andThen_ok]
 replace K1 := Aside0.mk ((setRow_other W4 (w.heap.size + 1) _ (((x4.set 10 82).set 11 49).map (Value.int .u8)).toArray (by omega)).trans K1.out)
 replace K2 := Aside0.mk (setRow_heap W4 (w.heap.size + 1) _ (((x4.set 10 82).set 11 49).map (Value.int .u8)).toArray 84 (0, 0) K2.out)
 replace HB := Aside0.mk (below_setRow (g := w.heap.size + 1) HB.out (by omega) (((x4.set 10 82).set 11 49).map (Value.int .u8)).toArray)
 clear hcp
 generalize W4.setRow (w.heap.size + 1) (((x4.set 10 82).set 11 49).map (Value.int .u8)).toArray = W5 at *
 obtain ⟨x5, hx5⟩ : ∃ x5, x5 = (x4.set 10 82).set 11 49 := ⟨_, rfl⟩
 rw [← hx5] at K2 A5_ A6_
 have hx5l : x5.length = 64 := by rw [hx5, List.length_set, List.length_set]; exact hlx4
 have hcp2 : ∃ n, (Builtin.copy_ #[22, 22] 3 #[.slice (some ⟨w.heap.size + 1, 12, none⟩) 48 52, .slice A part.length c]).run Try.prog W5 = .ok n (W5.setRow (w.heap.size + 1) ((cp12 x5 part).map (Value.int .u8)).toArray) := by
  by_cases hn : part = []
  ·refine ⟨goInt 0, (Go.run_copy_none W5 22 22 3 5 _ _ 48 52 part.length c Try.underlying22 rfl (by rw [hn]; rfl)).trans ?_⟩
   rw [show cp12 x5 part = x5 by rw [hn, cp12]; simp]
   rw [setRow_self W5 (w.heap.size + 1) _ 84 (0, 0) K2.out]
  ·have hpos : 0 < part.length := List.length_pos_iff.2 hn
   obtain ⟨ad, rfl, hcs⟩ := C_cells (Kd.C_below HR.out HB.out) hpos
   have := Go.run_copy_row (P := Try.prog) W5 22 22 3 5 (w.heap.size + 1) 12 48 52 ad part.length c _ 84 (part.map (Value.int .u8)) Try.underlying22 rfl K2.out (by rw [List.length_map]; exact (Nat.min_eq_left HP.out).symm) hcs (by simp [hx5l]; have := HP.out; omega) (by simp [Value.oneCell'])
   refine ⟨goInt (part.map (Value.int .u8)).length, this.trans ?_⟩
   simp [cp12]
 obtain ⟨ncp, hcp2⟩ := hcp2
 clear hx5
 go_wp2_with fail
 have hx6l : (cp12 x5 part).length = 64 := cp12_len x5 part hx5l HP.out
 replace K1 := Aside0.mk ((setRow_other W5 (w.heap.size + 1) _ ((cp12 x5 part).map (Value.int .u8)).toArray (by omega)).trans K1.out)
 replace K2 := Aside0.mk (setRow_heap W5 (w.heap.size + 1) _ ((cp12 x5 part).map (Value.int .u8)).toArray 84 (0, 0) K2.out)
 replace HB := Aside0.mk (below_setRow (g := w.heap.size + 1) HB.out (by omega) ((cp12 x5 part).map (Value.int .u8)).toArray)
 clear hcp2
 generalize W5.setRow (w.heap.size + 1) ((cp12 x5 part).map (Value.int .u8)).toArray = W7 at *
 generalize cp12 x5 part = y at *
 refine (impl_seal_arr kc 5 84 (w.heap.size + 1) y cr r W7 hx6l K2.out A5_.out AC_.out.1 AC_.out.2 A6_.out).mono ?_
 rintro e w9 ⟨rfl, hrl, rfl⟩
 replace K1 := Aside0.mk (blk_drew K1.out)
 replace K2 := Aside0.mk (blk_drew K2.out)
 replace HB := Aside0.mk (below_drew1 HB.out)
 generalize W7.drew = W8 at *
 replace K1 := Aside0.mk ((setRow_other W8 (w.heap.size + 1) _ (r.map (Value.int .u8)).toArray (by omega)).trans K1.out)
 replace K2 := Aside0.mk (setRow_heap W8 (w.heap.size + 1) _ (r.map (Value.int .u8)).toArray 84 (0, 0) K2.out)
 replace HB := Aside0.mk (below_setRow (g := w.heap.size + 1) HB.out (by omega) (r.map (Value.int .u8)).toArray)
 generalize W8.setRow (w.heap.size + 1) (r.map (Value.int .u8)).toArray = W9 at *
 have hrl' : r.length = 64 := hrl.trans hx6l
 have hld := Aside0.mk (load_arr (P := Try.prog) W9 ⟨w.heap.size + 1, 0, none⟩ 84 (r.map (Value.int .u8)) 64 5 (fun j v hj => by rw [add_plain]; exact (blk_cell K2.out j).trans (by simpa using hj)) (by kernel_rfl) (by rw [List.length_map, hrl']; kernel_rfl))
 have hst := Aside0.mk (store_arr (P := Try.prog) W9 w.heap.size 84 84 _ (r.map (Value.int .u8)).toArray K1.out (by rw [List.size_toArray, List.length_map, hrl']; kernel_rfl) (by simp [hzl, hrl']) (by simp [Value.oneCell']))
 go_wp2_with (first | ((with_reducible refine gate_dst (N := 29) rfl ?_); refine Kd.event_run rfl (exec_load _ _ rfl rfl hld.out) ?_) | ((with_reducible refine gate_store (t := 84) (p := 8) rfl ?_); refine store_event rfl rfl rfl (exec_store _ _ _ rfl rfl rfl hst.out) ?_; intro w2 hw2; have hw2 := Aside0.mk hw2))
 obtain rfl := hw2.out
 refine bodyPost_ret (results_cell_row rfl _ _ w.heap.size 84 (r.map (Value.int .u8)).toArray (0, 0) _ rfl (setRow_heap _ _ _ _ _ _ K1.out) Try.underlying84 rfl (by rw [List.size_toArray, List.length_map, hrl']; kernel_rfl)) rfl ⟨rfl, hrl', below_setRow (g := w.heap.size) HB.out (by omega) _⟩

/-! ### zL_rec: a text by hand -/
def put2 (x : Int) : List Int := [x % 256, x / 256 % 256]
theorem put_step2 (k : Nat) (x : Int) (l : List Int) (i : Int) (h0 : 0 ≤ i) (hi : i < 2) (hl : l.length < 100) (hx : 0 ≤ x) (hx2 : x < 4294967296) :
  spec_l2Put.l0 (k + 1) x 2 l i = spec_l2Put.l0 k (x / 256) 2 (l ++ [x % 256]) (i + 1) := by
 rw [spec_l2Put.l0, if_pos hi, if_pos (by omega), Int.tdiv_eq_ediv_of_nonneg hx, Int.tmod_eq_emod_of_nonneg hx]
 rw [show wrap64 (x / 256) = x / 256 from by unfold wrap64; omega, show wrap64 (i + 1) = i + 1 from by unfold wrap64; omega, show x % 256 % 256 = x % 256 from by omega]
theorem put2_ev (x : Int) (hx : 0 ≤ x) (hx2 : x < 4294967296) : Ev (fun k => spec_l2Put.f k x 2) (put2 x) := by
 refine Ev.of (fun k => spec_l2Put.mono _ _ k) (k := 3) ?_
 unfold spec_l2Put.f
 rw [put_step2 _ _ _ _ (by decide) (by decide) (by simp) hx hx2, put_step2 _ _ _ _ (by decide) (by decide) (by simp) (by omega) (by omega), spec_l2Put.l0, if_neg (by decide)]
 rfl
theorem iput_step2 (k : Nat) (xs : List Int) (p x : Int) (i n : Nat) (hi : i < 2) (hp : 0 ≤ p) (hpl : p + i < xs.length) (hxl : xs.length < 1000) (hn : (p + i).toNat = n) :
  impl_put.l0 (k + 1) xs p x 2 i = impl_put.l0 k (xs.set n (x / 2 ^ (8 * i) % 256)) p x 2 ((i + 1 : Nat) : Int) := by
 have e1 : wrap64 (8 * (i : Int)) = ((8 * i : Nat) : Int) := by unfold wrap64; omega
 have e2 : wrap64 (p + (i : Int)) = p + i := by unfold wrap64; omega
 have e3 : wrap64 ((i : Int) + 1) = ((i + 1 : Nat) : Int) := by unfold wrap64; omega
 have e4 : shr IntKind.i64 x ((8 * i : Nat) : Int) = x / 2 ^ (8 * i) := by
  show x / 2 ^ min (((8 * i : Nat) : Int)).toNat 64 = _
  rw [Int.toNat_natCast, Nat.min_eq_left (by omega)]
 rw [impl_put.l0, if_pos (by omega), e1, if_pos (by omega), e2, if_pos (by omega), if_pos (by omega), e3, e4, hn]
theorem impl_put2 (xs : List Int) (p x : Int) (n : Nat) (hp : 0 ≤ p) (hn : p.toNat = n) (hpl : p + 2 ≤ xs.length) (hxl : xs.length < 1000) :
  impl_put.f 5 xs p 2 x = some ((xs.set n (x % 256)).set (n + 1) (x / 256 % 256)) := by
 unfold impl_put.f
 rw [show (0 : Int) = ((0 : Nat) : Int) from rfl, iput_step2 4 xs p x 0 n (by decide) hp (by omega) hxl (by omega), iput_step2 3 _ p x 1 (n + 1) (by decide) hp (by simp; omega) (by simpa using hxl) (by omega), impl_put.l0, if_neg (by omega)]
 rw [show x / 2 ^ (8 * 0) = x from by simp, show x / 2 ^ (8 * 1) = x / 256 from by rw [show (2 : Int) ^ (8 * 1) = 256 from rfl]]
/-- The first 60 bytes of a sector of a record. -/
def sec0 (seq i k : Int) (part : List Int) : List Int := put4 seq ++ put2 i ++ put2 k ++ put2 part.length ++ [82, 49] ++ part ++ List.replicate (48 - part.length) 0
theorem sec0_len (seq i k : Int) (part : List Int) (h : part.length ≤ 48) : (sec0 seq i k part).length = 60 := by
 simp [sec0, put4, put2]
 omega
theorem pHead_eq (seq i k n : Int) (h0 : 0 ≤ seq) (h1 : seq < 4294967296) : pHead seq i k n = some (put4 seq ++ put2 i ++ put2 k ++ put2 n ++ List.replicate 54 0) := by
 unfold pHead
 rw [impl_put4 (List.replicate 64 0) 0 seq 0 (by decide) rfl (by simp) (by simp) h0 h1, Option.bind_some, impl_put2 _ 4 i 4 (by decide) rfl (by simp) (by simp), Option.bind_some, impl_put2 _ 6 k 6 (by decide) rfl (by simp) (by simp), Option.bind_some, impl_put2 _ 8 n 8 (by decide) rfl (by simp) (by simp)]
 rfl
theorem cPiece_eq (kc : Nat) (seq i k : Int) (part : List Int) (h0 : 0 ≤ seq) (h1 : seq < 4294967296) (hp : part.length ≤ 48) : cPiece kc seq i k part = (spec_Crc32.f kc (sec0 seq i k part)).map fun cr => sec0 seq i k part ++ put4 cr := by
 have hx : (cp12 (((put4 seq ++ put2 i ++ put2 k ++ put2 part.length ++ List.replicate 54 0).set 10 82).set 11 49) part) = sec0 seq i k part ++ [0, 0, 0, 0] := by
   have e : ((put4 seq ++ put2 i ++ put2 k ++ put2 (part.length : Int) ++ List.replicate 54 0).set 10 82).set 11 49 = (put4 seq ++ put2 i ++ put2 k ++ put2 (part.length : Int) ++ [82, 49]) ++ List.replicate 52 0 := rfl
   have e2 : (put4 seq ++ put2 i ++ put2 k ++ put2 (part.length : Int) ++ [82, 49]).length = 12 := rfl
   rw [e, cp12, List.take_left' e2, List.drop_append, e2, List.drop_eq_nil_of_le (by rw [e2]; omega), List.nil_append, Nat.add_sub_cancel_left, List.drop_replicate]
   unfold sec0
   rw [show List.replicate (52 - part.length) (0 : Int) = List.replicate (48 - part.length) 0 ++ [0, 0, 0, 0] from by rw [show ([0, 0, 0, 0] : List Int) = List.replicate 4 0 from rfl, List.replicate_append_replicate]; congr 1; omega]
   simp
 have hl := sec0_len seq i k part hp
 unfold cPiece
 rw [pHead_eq seq i k part.length h0 h1, Option.bind_some, hx, List.take_left' hl]
 cases hc : spec_Crc32.f kc (sec0 seq i k part) with
 | none => rfl
 | some cr =>
   have hb := crc_bd kc _ cr (by rw [hl]; omega) hc
   rw [Option.bind_some, impl_put4 _ 60 cr 60 (by decide) rfl (by simp [hl]) (by simp [hl]) hb.1 hb.2, Option.map_some]
   congr 1
   generalize sec0 seq i k part = s at hl
   have hs : ∀ (a b c d : Int), ((((s ++ [0, 0, 0, 0]).set 60 a).set 61 b).set 62 c).set 63 d = s ++ [a, b, c, d] := fun a b c d => by
    rw [List.set_append_right _ _ (by omega), List.set_append_right _ _ (by omega), List.set_append_right _ _ (by omega), List.set_append_right _ _ (by omega), hl]
    rfl
   exact hs _ _ _ _

/-! ### zL_rec2: a text by hand -/
/-- The sum of 60 bytes, as a function. -/
def CrcOk (cr : List Int → Int) : Prop := ∀ l : List Int, l.length = 60 → Ev (fun k => spec_Crc32.f k l) (cr l) ∧ 0 ≤ cr l ∧ cr l < 4294967296
theorem crc_total : ∃ cr : List Int → Int, CrcOk cr := by
 have h : ∀ l : List Int, ∃ c, l.length = 60 → Ev (fun k => spec_Crc32.f k l) c ∧ 0 ≤ c ∧ c < 4294967296 := fun l => by
  by_cases hl : l.length = 60
  ·obtain ⟨c, hc⟩ := crc_ev l (by omega)
   obtain ⟨k, hk⟩ := hc.rounds
   exact ⟨c, fun _ => ⟨hc, crc_bd k l c (by omega) hk⟩⟩
  ·exact ⟨0, fun h => absurd h hl⟩
 exact ⟨fun l => Classical.choose (h l), fun l hl => Classical.choose_spec (h l) hl⟩
/-- The sum of 60 bytes, one for all. -/
noncomputable def crcF : List Int → Int := Classical.choose crc_total
theorem crcF_ok : CrcOk crcF := Classical.choose_spec crc_total
def pcOf (cr : List Int → Int) (seq i k : Int) (part : List Int) : List Int := sec0 seq i k part ++ put4 (cr (sec0 seq i k part))
theorem zeros_evn (n : Nat) (hn : n ≤ 48) : ∀ (m i : Nat), i + m = n → Ev (fun k => spec_l1Zeros.l0 k n (List.replicate i 0) i) (List.replicate n 0)
 | 0, i, h => by
   refine Ev.step (f := fun _ => some (List.replicate n 0)) (fun K => ?_) (Ev.now _)
   rw [spec_l1Zeros.l0, if_neg (by omega), show i = n by omega]
 | m + 1, i, h => by
   refine Ev.step (fun K => ?_) (zeros_evn n hn m (i + 1) (by omega))
   rw [spec_l1Zeros.l0, if_pos (by omega), if_pos (by rw [List.length_replicate]; omega), show wrap64 ((i : Int) + 1) = ((i + 1 : Nat) : Int) from by unfold wrap64; omega, List.replicate_succ']
theorem seal_ev {cr : List Int → Int} (hc : CrcOk cr) (b : List Int) (hl : b.length = 60) : Ev (fun k => spec_l2Seal.f k b) (b ++ put4 (cr b)) := by
 obtain ⟨h1, h2, h3⟩ := hc b hl
 have hc2 := cat_evf [b, put4 (cr b)] (by simp) (by simp [put4, hl])
 rw [show [b, put4 (cr b)].flatten = b ++ put4 (cr b) from by simp] at hc2
 unfold spec_l2Seal.f
 refine Ev.bind h1 (Ev.bind ?_ (Ev.bind hc2 (Ev.now _)))
 rw [show wrap64 (cr b) = cr b from by unfold wrap64; omega]
 exact put_ev (cr b) h2 h3
/-- How many sectors a payload takes. -/
def recK (n : Nat) : Nat := if n = 0 then 1 else (n + 47) / 48
theorem recSec_ev (n : Nat) (h : n ≤ 30000) : Ev (fun k => spec_RecSectors.f k (n : Int)) (recK n : Int) := by
 unfold spec_RecSectors.f
 refine Ev.congr (fun k => by rw [if_neg (by omega), decide_eq_false (by omega)]) ?_
 refine Ev.step (f := fun _ => some ((recK n : Nat) : Int)) (fun K => ?_) (Ev.now _)
 rw [spec_RecSectors.j0, if_neg (by decide)]
 by_cases c : n = 0
 ·rw [if_pos (by omega), recK, if_pos c]; rfl
 ·rw [if_neg (by omega), recK, if_neg c]
  congr 1
  rw [show wrap64 ((n : Int) + 48) = n + 48 from by unfold wrap64; omega, show wrap64 ((n : Int) + 48 - 1) = n + 47 from by unfold wrap64; omega, Int.tdiv_eq_ediv_of_nonneg (by omega), show ((n : Int) + 47) / 48 = (((n + 47) / 48 : Nat) : Int) from by omega]
  unfold wrap64
  omega
def pieceOf (P : List Int) (i : Nat) : List Int := (P.drop (48 * i)).take 48
theorem pieceOf_len (P : List Int) (i : Nat) : (pieceOf P i).length ≤ 48 := by unfold pieceOf; rw [List.length_take]; omega
def secsOf (cr : List Int → Int) (seq : Int) (P : List Int) : List (List Int) := (List.range (recK P.length)).map fun (i : Nat) => pcOf cr seq i (recK P.length) (pieceOf P i)
theorem sectors_loop {cr : List Int → Int} (hc : CrcOk cr) (seq : Int) (h0 : 0 ≤ seq) (h1 : seq < 4294967296) (P : List Int) (hP : P.length ≤ 30000) (K : Nat) (hK : K = recK P.length) : ∀ (m i : Nat) (acc : List (List Int)), i + m = K → acc.length = i →
   Ev (fun k => spec_l2Sectors.l0 k seq P K acc i) (acc ++ (List.range' i m).map fun (j : Nat) => pcOf cr seq j K (pieceOf P j))
 | 0, i, acc, h, ha => by
   refine Ev.step (f := fun _ => some acc) (fun k => ?_) (by simpa using Ev.now acc)
   rw [spec_l2Sectors.l0, if_neg (by omega)]
 | m + 1, i, acc, h, ha => by
   have hKb : K ≤ 626 := by rw [hK, recK]; split <;> omega
   have hi48 : 48 * i ≤ P.length := by
    rw [recK] at hK
    by_cases c : P.length = 0
    ·rw [if_pos c] at hK; omega
    ·rw [if_neg c] at hK; omega
   have ih := sectors_loop hc seq h0 h1 P hP K hK m (i + 1) (acc ++ [pcOf cr seq i K (pieceOf P i)]) (by omega) (by simp [ha])
   have hpl := pieceOf_len P i
   have hj : Ev (fun k => spec_l2Sectors.j1 k seq P K acc i (pieceOf P i)) (acc ++ (List.range' i (m + 1)).map fun (j : Nat) => pcOf cr seq j K (pieceOf P j)) := by
    generalize hpq : pieceOf P i = q at hpl ih
    refine Ev.step (f := fun k => (spec_l2Put.f k seq 4).bind fun t604 => (spec_l2Put.f k (i : Int) 2).bind fun t607 => (spec_l2Put.f k (K : Int) 2).bind fun t610 => (spec_l2Put.f k (q.length : Int) 2).bind fun t613 => (spec_l2Cat.f k [t604, t607, t610, t613, [82, 49]]).bind fun t622 => (spec_l1Zeros.f k (wrap64 (48 - (q.length : Int)))).bind fun t625 => (spec_l2Cat.f k [t622, q, t625]).bind fun t631 => (spec_l2Seal.f k t631).bind fun t634 => if acc.length < 5864062014805 then spec_l2Sectors.l0 k seq P (K : Int) (acc ++ [t634]) (wrap64 ((i : Int) + 1)) else none) (fun k => by simp only [spec_l2Sectors.j1]) ?_
    have hcat := cat_evf [put4 seq, put2 i, put2 K, put2 (q.length : Int), [82, 49]] (by simp) (by simp [put4, put2])
    have hcat2 := cat_evf [[put4 seq, put2 i, put2 K, put2 (q.length : Int), [82, 49]].flatten, q, List.replicate (48 - q.length) 0] (by simp) (by simp [put4, put2]; omega)
    have hfl : [[put4 seq, put2 i, put2 K, put2 (q.length : Int), [82, 49]].flatten, q, List.replicate (48 - q.length) 0].flatten = sec0 seq i K q := by simp [sec0]
    rw [hfl] at hcat2
    have hseal := seal_ev hc (sec0 seq i K q) (sec0_len seq i K q hpl)
    have hz := zeros_evn (48 - q.length) (by omega) (48 - q.length) 0 (by omega)
    refine Ev.bind (put_ev seq h0 h1) (Ev.bind (put2_ev i (by omega) (by omega)) (Ev.bind (put2_ev K (by omega) (by omega)) (Ev.bind (put2_ev (q.length : Int) (by omega) (by omega)) (Ev.bind hcat (Ev.bind ?_ (Ev.bind hcat2 (Ev.bind hseal ?_)))))))
    ·rw [show wrap64 (48 - (q.length : Int)) = ((48 - q.length : Nat) : Int) from by unfold wrap64; omega]
     exact hz
    ·refine Ev.congr (fun k => by rw [if_pos (by omega), show wrap64 ((i : Int) + 1) = ((i + 1 : Nat) : Int) from by unfold wrap64; omega]) ?_
     rw [List.range'_succ, List.map_cons, hpq]
     rw [List.append_assoc] at ih
     exact ih
   refine Ev.step (f := fun k => spec_l2Sectors.j1 k seq P K acc i (pieceOf P i)) (fun k => ?_) hj
   rw [spec_l2Sectors.l0, if_pos (by omega), show wrap64 ((i : Int) * 48) = ((48 * i : Nat) : Int) from by unfold wrap64; omega, if_pos (by omega), if_pos (by omega), Option.bind_some, Int.toNat_natCast]
   by_cases c : ((P.drop (48 * i)).length : Int) > 48
   ·rw [if_pos c, if_pos (by omega)]; rfl
   ·rw [if_neg c, show pieceOf P i = P.drop (48 * i) from List.take_of_length_le (by omega)]
theorem sectors_ev {cr : List Int → Int} (hc : CrcOk cr) (seq : Int) (h0 : 0 ≤ seq) (h1 : seq < 4294967296) (P : List Int) (hP : P.length ≤ 30000) : Ev (fun k => spec_l2Sectors.f k seq P) (secsOf cr seq P) := by
 unfold spec_l2Sectors.f
 refine Ev.bind (recSec_ev P.length hP) ?_
 have := sectors_loop hc seq h0 h1 P hP (recK P.length) rfl (recK P.length) 0 [] (by omega) rfl
 rw [List.nil_append, ← List.range_eq_range'] at this
 exact this

/-! ### zL_rec2c: a text by hand -/
theorem rounds_all {α : Type} {F : Nat → Nat → Option α} {v : Nat → α} : ∀ N : Nat, (∀ i, i < N → Ev (F i) (v i)) → ∃ k, ∀ k' i, k ≤ k' → i < N → F i k' = some (v i)
 | 0, _ => ⟨0, fun _ i _ hi => absurd hi (by omega)⟩
 | N + 1, h => by
   obtain ⟨k, hk⟩ := rounds_all N (fun i hi => h i (by omega))
   obtain ⟨k2, hk2⟩ := h N (by omega)
   refine ⟨k + k2, fun k' i hk' hi => ?_⟩
   by_cases e : i = N
   ·subst e; exact hk2 k' (by omega)
   ·exact hk k' i (by omega) (by omega)
theorem cPiece_ev {cr : List Int → Int} (hc : CrcOk cr) (seq : Int) (hs : gN seq = true) (i k : Int) (part : List Int) (h : part.length ≤ 48) : Ev (fun kc => cPiece kc seq i k part) (pcOf cr seq i k part) := by
 have hs : 1 ≤ seq ∧ seq ≤ 2000000000 := by unfold gN at hs; simpa using hs
 have := (hc _ (sec0_len seq i k part h)).1
 refine Ev.congr (fun kc => by rw [cPiece_eq kc seq i k part (by omega) (by omega) h]) ?_
 obtain ⟨k0, hk0⟩ := this
 exact ⟨k0, fun k' hk' => by have := hk0 k' hk'; dsimp only at this ⊢; rw [this]; rfl⟩

/-! ### L_overEq: a text by hand -/
theorem over_eq (l : List Int) (s : Int) (d : List Int) (h0 : 0 ≤ s) (h1 : s * 64 + d.length ≤ l.length) (h2 : l.length ≤ 65599) : spec_l1Over.f l s d = some (ovr l s d) := by
 have e1 : wrap64 (s * 64) = s * 64 := by unfold wrap64; omega
 have e2 : wrap64 (s * 64 + (d.length : Int)) = s * 64 + d.length := by unfold wrap64; omega
 unfold spec_l1Over.f
 simp only [Option.bind_some, List.nil_append, List.length_nil, Nat.zero_add, e1, e2]
 rw [if_pos (by omega), if_pos (by omega), if_pos (by rw [List.length_take]; omega), if_pos (by rw [List.length_take]; omega), if_pos (by omega), if_pos (by omega), if_pos (by simp; omega)]
 unfold ovr
 rw [List.append_assoc, show (s * 64 + (d.length : Int)).toNat = (s * 64).toNat + d.length by omega]

/-! ### L_specSync: a text by hand -/
theorem specCopy_loop (l0 : List Int) (l1 : List S79) (a2 : Int) (a3 : Bool) (hok : okPendS l1) : ∀ (d i : Nat), i + d = l1.length → Ev (fun k => spec_l1Copy.l0 k (i : Int) l0 l1 a2 a3 l0 (l1.take i) a2 a3) (l0, l1, a2, a3) := by
 intro d
 induction d with
 | zero =>
   intro i hi
   rw [List.take_of_length_le (by omega)]
   exact Ev.step (fun K => by simp only [spec_l1Copy.l0]; rw [if_neg (by omega)]) (Ev.now _)
 | succ d ih =>
   intro i hi
   have ih' := ih (i + 1) (by omega)
   have h1 := hok.1
   have hx := hok.2 _ (rdP_mem l1 i (by omega))
   have ew : wrap64 ((i : Int) + 1) = ((i + 1 : Nat) : Int) := by unfold wrap64; omega
   have hp : l1.take (i + 1) = l1.take i ++ [rd_T79 l1 (i : Int)] := by
    unfold rd_T79
    rw [List.take_succ_eq_append_getElem (by omega), Int.toNat_natCast, List.getD_eq_getElem?_getD, List.getElem?_eq_getElem (by omega)]
    rfl
   rw [hp] at ih'
   exact Ev.step (fun K => by
    simp only [spec_l1Copy.l0]
    rw [if_pos (by omega), if_pos (by omega), Option.bind_some, if_pos (by simp; omega), if_pos (by rw [List.length_take]; omega), ew, List.nil_append]) ih'
theorem specCopy_ev (l0 : List Int) (l1 : List S79) (a2 : Int) (a3 : Bool) (h0 : l0.length ≤ 1048576) (hok : okPendS l1) : Ev (fun k => spec_l1Copy.f k l0 l1 a2 a3) (l0, l1, a2, a3) := by
 unfold spec_l1Copy.f
 exact Ev.congr (fun K => by rw [Option.bind_some, if_pos (by rw [List.length_nil]; omega), List.nil_append]; rfl) (specCopy_loop l0 l1 a2 a3 hok l1.length 0 (by omega))
theorem specStep_ev (l0 : List Int) (l1 : List S79) (a2 : Int) (a3 : Bool) (h0 : l0.length ≤ 1048576) (hok : okPendS l1) (hf : -1 ≤ a2) (hf2 : a2 ≤ 1000000) : Ev (fun k => spec_l1Step.f k l0 l1 a2 a3) (if a2 = 0 then (l0, l1, 0, true) else (l0, l1, fuelD a2, a3)) := by
 unfold spec_l1Step.f
 refine Ev.bind (specCopy_ev l0 l1 a2 a3 h0 hok) ?_
 by_cases c : a2 = 0
 ·subst c
  exact Ev.congr (fun K => by rw [if_pos rfl, if_pos rfl]) (Ev.now _)
 ·rw [if_neg c]
  unfold fuelD
  by_cases c2 : a2 > 0
  ·rw [if_pos (show 0 < a2 from c2)]
   exact Ev.congr (fun K => by rw [if_neg c, if_pos c2, show wrap64 (a2 - 1) = a2 - 1 by unfold wrap64; omega]) (Ev.now _)
  ·rw [if_neg (show ¬ 0 < a2 from c2)]
   exact Ev.congr (fun K => by rw [if_neg c, if_neg c2]) (Ev.now _)
theorem specSync_loop (l0 : List Int) (l1 : List S79) (a2 : Int) (a3 : Bool) (x1 : List S79) (f : Int) (h2 : l0.length ≤ 65599) (h3 : l1.length ≤ 2000) (h : ∀ x ∈ l1, 0 ≤ x.f0 ∧ x.f0 < ((l0.length / 64 : Nat) : Int) ∧ x.f1.length = 64) :
   ∀ (d i : Nat), i + d = l1.length → Ev (fun k => spec_DiskSync.l0 k (i : Int) l0 l1 a2 a3 (syF l0 l1 i) x1 f a3) (syF l0 l1 l1.length, ([] : List S79), f, a3) := by
 intro d
 induction d with
 | zero => intro i hi; obtain rfl : i = l1.length := by omega
           exact Ev.step (fun K => by simp only [spec_DiskSync.l0]; rw [if_neg (by omega)]) (Ev.now _)
 | succ d ih =>
   intro i hi
   have ih' := ih (i + 1) (by omega)
   have hx := h _ (rdP_mem l1 i (by omega))
   have hl := syF_len l0 l1 h i (by omega)
   have ew : wrap64 ((i : Int) + 1) = ((i + 1 : Nat) : Int) := by unfold wrap64; omega
   have hn : syF l0 l1 (i + 1) = ovr (syF l0 l1 i) (rd_T79 l1 (i : Int)).f0 (rd_T79 l1 (i : Int)).f1 := rfl
   rw [hn] at ih'
   have ho := over_eq (syF l0 l1 i) (rd_T79 l1 (i : Int)).f0 (rd_T79 l1 (i : Int)).f1 hx.1 (by rw [hl, hx.2.2]; omega) (by omega)
   exact Ev.step (fun K => by simp only [spec_DiskSync.l0]; rw [if_pos (by omega), if_pos (by omega), ho, Option.bind_some, ew]) ih'
theorem specSync_ev (l0 : List Int) (l1 : List S79) (a2 : Int) (a3 : Bool) (h0 : l0.length ≤ 1048576) (hok : okPendS l1) : Ev (fun k => spec_DiskSync.f k l0 l1 a2 a3) (dSync l0 l1 a2 a3) := by
 have hj : Ev (fun k => spec_DiskSync.j0 k true l0 l1 a2 a3) (l0, l1, a2, a3) := Ev.step (fun K => by simp only [spec_DiskSync.j0]; rw [if_true]) (Ev.bind (specCopy_ev l0 l1 a2 a3 h0 hok) (Ev.now _))
 unfold spec_DiskSync.f dSync
 refine Ev.bind (specValid_ev l0 l1 a2 a3 h0 hok.1) ?_
 by_cases cv : vD l0 l1 a2 = true
 case neg =>
   have cv' : vD l0 l1 a2 = false := by simpa using cv
   rw [cv', Bool.false_and, if_neg (by decide)]
   exact Ev.congr (fun K => by rw [if_neg (by decide)]) hj
 obtain ⟨f1, f2, f3, f4, f5, f6, f7⟩ := vD_facts cv
 rw [cv, Bool.true_and]
 refine Ev.congr (fun K => by rw [if_pos rfl]) ?_
 cases a3 with
 | true => exact hj
 | false =>
   rw [Bool.not_false, if_pos rfl]
   have hs := specStep_ev l0 l1 a2 false h0 hok f5 f6
   refine Ev.step (fun K => by simp only [spec_DiskSync.j0]; rw [if_neg (by decide)]) (Ev.bind hs ?_)
   by_cases c : a2 = 0
   ·rw [if_pos c, if_pos c]
    exact Ev.congr (fun K => by rw [if_pos rfl]) (Ev.now _)
   ·rw [if_neg c, if_neg c]
    exact Ev.congr (fun K => by rw [if_neg (by simp)]; rfl) (specSync_loop l0 l1 a2 false l1 (fuelD a2) f3 f4 f7 l1.length 0 (by omega))

/-! ### L_specWrite: a text by hand -/
theorem specWrite_ev (l0 : List Int) (l1 : List S79) (a2 : Int) (a3 : Bool) (s : Int) (xs : List Int) (h0 : l0.length ≤ 1048576) (hok : okPendS l1) (hx : xs.length ≤ 1048576) : Ev (fun k => spec_DiskWrite.f k l0 l1 a2 a3 s xs) (dWrite l0 l1 a2 a3 s xs) := by
 have hj : Ev (fun k => spec_DiskWrite.j0 k s xs true l0 l1 a2 a3) (l0, l1, a2, a3) := Ev.step (fun K => by simp only [spec_DiskWrite.j0]; rw [if_true]) (Ev.bind (specCopy_ev l0 l1 a2 a3 h0 hok) (Ev.now _))
 unfold spec_DiskWrite.f dWrite
 refine Ev.bind (specValid_ev l0 l1 a2 a3 h0 hok.1) ?_
 by_cases cv : vD l0 l1 a2 = true
 case neg =>
   rw [if_neg (fun h => cv h.1)]
   exact Ev.congr (fun K => by rw [if_neg cv]) hj
 obtain ⟨f1, f2, f3, f4, f5, f6, f7⟩ := vD_facts cv
 refine Ev.congr (fun K => by rw [if_pos cv]) ?_
 cases a3 with
 | true =>
   rw [if_neg (fun h => by cases h.2.1)]
   exact hj
 | false =>
 refine Ev.congr (fun K => by rw [if_neg (by decide)]) ?_
 by_cases c : s < 0
 · rw [if_neg (fun h => by have := h.2.2.1; unfold inD at this; simp at this; omega)]
   exact Ev.congr (fun K => by rw [if_pos c]) hj
 have hsec : spec_l1Sectors.f l0 l1 a2 false = some ((l0.length / 64 : Nat) : Int) := by unfold spec_l1Sectors.f; rw [sectors_at l0 h0]
 refine Ev.congr (fun K => by rw [if_neg c, hsec, Option.bind_some]) ?_
 by_cases c2 : s ≥ ((l0.length / 64 : Nat) : Int)
 · rw [if_neg (fun h => by have := h.2.2.1; unfold inD at this; simp at this; omega)]
   exact Ev.congr (fun K => by rw [if_pos c2]) hj
 refine Ev.congr (fun K => by rw [if_neg c2]) ?_
 have hin : inD l0 s = true := by unfold inD; rw [decide_eq_true (show 0 ≤ s by omega), decide_eq_true (show s < _ by omega)]; rfl
 by_cases c3 : xs.length = 64
 case neg =>
   rw [if_neg (fun h => c3 h.2.2.2.1)]
   exact Ev.congr (fun K => by rw [if_neg (by omega)]) hj
 refine Ev.congr (fun K => by rw [if_pos (by omega)]) ?_
 by_cases c4 : l1.length = 2000
 · rw [if_neg (fun h => h.2.2.2.2 c4)]
   exact Ev.congr (fun K => by rw [show ((l1.length : Int) == 2000) = true by simpa using (by omega : (l1.length : Int) = 2000)]) hj
 rw [if_pos ⟨cv, rfl, hin, c3, c4⟩]
 refine Ev.congr (fun K => by rw [show ((l1.length : Int) == 2000) = false by simpa using (by omega : ¬ (l1.length : Int) = 2000)]) ?_
 have hs := specStep_ev l0 l1 a2 false h0 hok f5 f6
 refine Ev.step (fun K => by simp only [spec_DiskWrite.j0]; rw [if_neg (by decide)]) (Ev.bind hs ?_)
 by_cases c5 : a2 = 0
 · rw [if_pos c5, if_pos c5]
   exact Ev.congr (fun K => by rw [if_pos rfl]) (Ev.now _)
 · rw [if_neg c5, if_neg c5]
   exact Ev.congr (fun K => by rw [if_neg (by simp), Option.bind_some, if_pos (by simp; omega), if_pos (by simp; omega), List.nil_append]) (Ev.now _)

/-! ### zL_wdisk: a text by hand -/
/-- A disk's four fields, and the two steps of a device upon them. -/
def dkW (q : List Int × List S79 × Int × Bool) (s : Int) (xs : List Int) : List Int × List S79 × Int × Bool := dWrite q.1 q.2.1 q.2.2.1 q.2.2.2 s xs
def dkS (q : List Int × List S79 × Int × Bool) : List Int × List S79 × Int × Bool := dSync q.1 q.2.1 q.2.2.1 q.2.2.2
/-- The first n writes of a record. -/
def wrF (at_ : Int) (S : Nat → List Int) : Nat → List Int × List S79 × Int × Bool → List Int × List S79 × Int × Bool
 | 0, q => q
 | n + 1, q => dkW (wrF at_ S n q) (at_ + n) (S n)
/-- All of a record's steps. -/
def wrAll (at_ : Int) (S : Nat → List Int) (K : Nat) (q : List Int × List S79 × Int × Bool) : List Int × List S79 × Int × Bool :=
 dkS (dkW (if 1 < K then dkS (wrF at_ S (K - 1) q) else wrF at_ S (K - 1) q) (at_ + ((K - 1 : Nat) : Int)) (S (K - 1)))
noncomputable def wrS (seq : Int) (P : List Int) (i : Nat) : List Int := pcOf crcF seq i (recK P.length) (pieceOf P i)
def wrC (l0 : List Int) (l1 : List S79) (a2 at_ seq : Int) (P : List Int) : Prop := vD l0 l1 a2 = true ∧ gN seq = true ∧ P.length ≤ 30000 ∧ 2 ≤ at_ ∧ at_ + (recK P.length : Int) ≤ ((l0.length / 64 : Nat) : Int)
instance (l0 : List Int) (l1 : List S79) (a2 at_ seq : Int) (P : List Int) : Decidable (wrC l0 l1 a2 at_ seq P) := by unfold wrC; infer_instance
noncomputable def mWR (l0 : List Int) (l1 : List S79) (a2 : Int) (a3 : Bool) (at_ seq : Int) (P : List Int) : List Int × List S79 × Int × Bool :=
 if wrC l0 l1 a2 at_ seq P then wrAll at_ (wrS seq P) (recK P.length) (l0, l1, a2, a3) else (l0, l1, a2, a3)
/-- What the contracts ask of a disk. -/
def okQ (q : List Int × List S79 × Int × Bool) : Prop := q.1.length ≤ 1048576 ∧ okPendS q.2.1
noncomputable def m_WriteRec.f (_k : Nat) (l0 : List Int) (l1 : List S79) (a2 : Int) (a3 : Bool) (at_ seq : Int) (P : List Int) : Option (List Int × List S79 × Int × Bool) :=
 if l0.length ≤ 1048576 ∧ l1.length ≤ 1048576 ∧ l1.all (fun x => decide (x.f1.length ≤ 1048576)) = true ∧ P.length ≤ 1048576 then some (mWR l0 l1 a2 a3 at_ seq P) else none
theorem okS_all {l1 : List S79} (h : okPendS l1) : l1.all (fun x => decide (x.f1.length ≤ 1048576)) = true := List.all_eq_true.2 (fun x hx => decide_eq_true (h.2 x hx))
theorem dkW_ok {q : List Int × List S79 × Int × Bool} (h : okQ q) (s : Int) (xs : List Int) : okQ (dkW q s xs) := by
 unfold dkW dWrite
 split
 next c =>
  obtain ⟨f1, f2, f3, f4, f5, f6, f7⟩ := vD_facts c.1
  split
  ·exact h
  ·refine ⟨h.1, by show (q.2.1 ++ _).length ≤ _; rw [List.length_append]; simp; omega, fun x hx => ?_⟩
   rcases List.mem_append.1 hx with hx | hx
   ·exact h.2.2 x hx
   ·rw [List.mem_singleton.1 hx]; have := c.2.2.2.1; show xs.length ≤ _; omega
 ·exact h
theorem dkS_ok {q : List Int × List S79 × Int × Bool} (h : okQ q) : okQ (dkS q) := by
 unfold dkS dSync
 split
 next c =>
  simp only [Bool.and_eq_true] at c
  obtain ⟨f1, f2, f3, f4, f5, f6, f7⟩ := vD_facts c.1
  split
  ·exact h
  ·refine ⟨by show (syF q.1 q.2.1 q.2.1.length).length ≤ _; rw [syF_len q.1 q.2.1 f7 _ (Nat.le_refl _)]; exact h.1, by simp [okPendS]⟩
 ·exact h
theorem wrF_ok {q : List Int × List S79 × Int × Bool} (h : okQ q) (at_ : Int) (S : Nat → List Int) : ∀ n, okQ (wrF at_ S n q)
 | 0 => h
 | n + 1 => dkW_ok (wrF_ok h at_ S n) _ _
theorem dkW_dead {q : List Int × List S79 × Int × Bool} (h : q.2.2.2 = true) (s : Int) (xs : List Int) : dkW q s xs = q := by
 unfold dkW dWrite
 rw [if_neg (fun hh => by rw [h] at hh; cases hh.2.1)]
theorem dkS_dead {q : List Int × List S79 × Int × Bool} (h : q.2.2.2 = true) : dkS q = q := by
 unfold dkS dSync
 rw [if_neg (by rw [h]; simp)]
theorem wrF_dead {q : List Int × List S79 × Int × Bool} (at_ : Int) (S : Nat → List Int) (i : Nat) (h : (wrF at_ S i q).2.2.2 = true) : ∀ n, wrF at_ S (i + n) q = wrF at_ S i q
 | 0 => rfl
 | n + 1 => by
   show dkW (wrF at_ S (i + n) q) _ _ = _
   rw [wrF_dead at_ S i h n, dkW_dead h]
theorem wrAll_dead {q : List Int × List S79 × Int × Bool} (at_ : Int) (S : Nat → List Int) (K i : Nat) (hi : i ≤ K - 1) (h : (wrF at_ S i q).2.2.2 = true) : wrAll at_ S K q = wrF at_ S i q := by
 have e : wrF at_ S (K - 1) q = wrF at_ S i q := by
  have := wrF_dead at_ S i h (K - 1 - i)
  rwa [show i + (K - 1 - i) = K - 1 by omega] at this
 unfold wrAll
 rw [e, dkS_dead h, ite_self, dkW_dead h, dkS_dead h]
/-- A disk that lies in a box g, its rows readable and apart from the box. -/
structure DB (w0 W : World) (g : Nat) (A : Option Addr) (c : Nat) (B : Option Addr) (d : Nat) (l0 : List Int) (l1 : List S79) (a2 : Int) (a3 : Bool) : Prop where
 box : W.heap[g]? = some (.cells #[.slice A l0.length c, .slice B l1.length d, .int .i64 a2, .bool a3] 25 (0, 0))
 r : Kd.V (Kd.int .u8) 5 W 0 (fun k => k ≠ g) (.slice A l0.length c) l0
 s : Kd.V k79 79 W 0 (fun k => k ≠ g) (.slice B l1.length d) l1
 le : w0.heap.size ≤ g
 b : Below w0.heap.size w0 W
theorem V_came {α : Type} {d : Kd α} (hd : Kd.Heap d) (e base : Nat) {w : World} {A : Option Addr} {xs : List α} {c g : Nat} (h : d.C w A xs.length xs) (hc : xs.length ≤ c) (hg : w.heap.size ≤ g) : Kd.V d e w base (fun k => k ≠ g) (.slice A xs.length c) xs :=
 Kd.V_mk hc (Kd.F_mono (Kd.C_F hd h) (fun k hk => by omega))
section
variable {w0 W W' : World} {g c d c' d' : Nat} {A B A' B' : Option Addr} {l0 r1 : List Int} {l1 r2 : List S79} {a2 r3 : Int} {a3 r4 : Bool}
theorem DB.below (h : DB w0 W g A c B d l0 l1 a2 a3) (hb : Below W.heap.size W W') : DB w0 W' g A c B d l0 l1 a2 a3 :=
 ⟨blk_below h.box hb, Kd.V_below h.r hb, Kd.V_below h.s hb, h.le, below_step h.b hb⟩
theorem DB.c0 (h : DB w0 W g A c B d l0 l1 a2 a3) : Kd.C (Kd.int .u8) W A l0.length l0 := (Kd.V_reads' h.r).2.2
theorem DB.n0 (h : DB w0 W g A c B d l0 l1 a2 a3) : l0.length ≤ c := (Kd.V_reads' h.r).2.1
theorem DB.c1 (h : DB w0 W g A c B d l0 l1 a2 a3) : Kd.C k79 W B l1.length l1 := (Kd.V_reads' h.s).2.2
theorem DB.n1 (h : DB w0 W g A c B d l0 l1 a2 a3) : l1.length ≤ d := (Kd.V_reads' h.s).2.1
theorem DB.new {w : World} {zz : Array Value} (hr0 : Kd.C (Kd.int .u8) w A l0.length l0) (hc0 : l0.length ≤ c) (hr1 : Kd.C k79 w B l1.length l1) (hc1 : l1.length ≤ d) :
  DB w ((w.alloc (.cells #[.slice A l0.length c, .slice B l1.length d, .int .i64 a2, .bool a3] 25)).alloc (.cells zz 25)) w.heap.size A c B d l0 l1 a2 a3 :=
 DB.below (W := w.alloc (.cells #[.slice A l0.length c, .slice B l1.length d, .int .i64 a2, .bool a3] 25)) ⟨blk_new _ _, Kd.V_alloc (V_came (Kd.heap_int .u8) _ _ hr0 hc0 (Nat.le_refl _)) _, Kd.V_alloc (V_came k79_heap _ _ hr1 hc1 (Nat.le_refl _)) _, Nat.le_refl _, below_alloc (Below.refl _ _) _⟩ (below_alloc (Below.refl _ _) _)
theorem DB.put (h : DB w0 W g A c B d l0 l1 a2 a3) (hb : Below W.heap.size W W')
  (hR : Kd.R (Kd.int .u8) 5 W' W.heap.size (fun _ => True) (.slice A' r1.length c') r1) (hS : Kd.S k79 79 W' W.heap.size (fun k_ => some k_ ≠ (.slice A' r1.length c' : Value).ownBlock) (.slice B' r2.length d') r2) :
  DB w0 ((((W'.setCell ⟨g, 0, none⟩ (.slice A' r1.length c')).setCell ⟨g, 1, none⟩ (.slice B' r2.length d')).setCell ⟨g, 2, none⟩ (.int .i64 r3)).setCell ⟨g, 3, none⟩ (.bool r4)) g A' c' B' d' r1 r2 r3 r4 := by
 have hl := h.le
 have hlt := blk_lt h.box
 have R1 : Kd.V (Kd.int .u8) 5 W' 0 (fun k => k ≠ g) (.slice A' r1.length c') r1 := Kd.R_V (Kd.R_mono (Kd.R_bound hR) (fun k hk => by have := hk.2.1; omega))
 have S1 : Kd.V k79 79 W' 0 (fun k => k ≠ g) (.slice B' r2.length d') r2 := Kd.S_V (Kd.S_mono (Kd.S_bound hS) (fun k hk => by have := hk.2.1; omega))
 have b1 := below_step h.b hb
 exact ⟨blk_set4 (blk_below h.box hb), Kd.V_far (Kd.V_far (Kd.V_far (Kd.V_far R1 (fun _ h => h) _) (fun _ h => h) _) (fun _ h => h) _) (fun _ h => h) _, Kd.V_far (Kd.V_far (Kd.V_far (Kd.V_far S1 (fun _ h => h) _) (fun _ h => h) _) (fun _ h => h) _) (fun _ h => h) _, hl,
  below_setB (below_setB (below_setB (below_setB b1 hl _ _) hl _ _) hl _ _) hl _ _⟩
end
end Go.Proofs.Yteddpdonmhiplaa.PR
