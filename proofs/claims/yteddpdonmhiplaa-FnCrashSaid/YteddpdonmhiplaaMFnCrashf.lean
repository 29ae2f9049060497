-- Made by this session's programs out of the translation and of its own texts.
import Derived.Test.YteddpdonmhiplaaMFnCrashe
namespace Go.Proofs.Yteddpdonmhiplaa.PR
open Go.RowKit Go.Proofs.YteddpdonmhiplaaW.PrintWords Go.Proofs.YteddpdonmhiplaaW.PrintLast Go.Proofs.YteddpdonmhiplaaW.PrintMore
attribute [local go_sem] max2_int min2_int max_two min_two max_three min_three max_four min_four   -- for this text's walks alone
set_option linter.unusedVariables false
set_option linter.unusedSimpArgs false

/-! ### L_copy: a text by hand -/
-- import Derived.Laws.CopyOwn
theorem step_copy_at {P : Program} {ops : Array Oper} {o : Oper} {a : Act} {w : World} {K : Act → World → Prop} {Q : Exit → Act → World → Prop} {E : Prop} (hgd : o.guard = none) (d s : Operand) (dT sT : TypeId)
  (ho : o.op = .call { callee := .builtin .copy, args := #[d, s], argTypes := #[dT, sT] }) (elem : TypeId) (hu : P.underlying dT = some (.slice elem)) (hsz : (P.info? elem).map (·.size) = some 1)
  (g off dLen dCap : Nat) (ad : Addr) (sLen sCap : Nat) (hd : a.eval d = .slice (some ⟨g, off, none⟩) dLen dCap) (hs : a.eval s = .slice (some ad) sLen sCap)
  (cur : List Value) (t : TypeId) (hg : w.heap[g]? = some (.cells cur.toArray t (0, 0))) (cs : List Value) (hn : cs.length = Nat.min sLen dLen)
  (hsrc : ∀ j v, cs[j]? = some v → w.cell? (ad.add j) = some v) (hfit : off + cs.length ≤ cur.length) (h1 : ∀ v ∈ cs, v.oneCell' = true)
  (h : ∀ w', w' = w.setRow g (cur.take off ++ (cs ++ cur.drop (off + cs.length))).toArray → K (a.put o.dst (goInt cs.length)) w') :
  if Region.wanted o (yielded ops a.tmps) = true then Oper.wp P o a w K Q else E := by
 have hw : Region.wanted o (yielded ops a.tmps) = true := by simp [Region.wanted, hgd]
 rw [if_pos hw]
 have hrun := run_copy_row (P := P) w dT sT o.type elem g off dLen dCap ad sLen sCap cur.toArray t cs hu hsz hg hn hsrc (by simpa using hfit) h1
 unfold Oper.wp
 simp [execOp, ho, resolve, invoke, builtin, hd, hs, hrun, Result.andThen]
 exact h _ (by simp)
theorem ovr_cells (l : List Int) (s : Int) (d : List Int) (tail : List Value) (h : (s * 64).toNat + d.length ≤ l.length) :
  (l.map (Value.int .u8) ++ tail).take (s * 64).toNat ++ (d.map (Value.int .u8) ++ (l.map (Value.int .u8) ++ tail).drop ((s * 64).toNat + (d.map (Value.int .u8)).length)) = (ovr l s d).map (Value.int .u8) ++ tail := by
 unfold ovr
 rw [List.length_map, List.take_append_of_le_length (by simp; omega), List.drop_append_of_le_length (by simp; omega)]
 simp [List.map_take, List.map_drop]
theorem blk_new3 (w : World) (a b c : Obj) : (((w.alloc a).alloc b).alloc c).heap[w.heap.size + 1 + 1]? = some c := by
 have h := blk_new ((w.alloc a).alloc b) c
 rw [show ((w.alloc a).alloc b).heap.size = w.heap.size + 1 + 1 from by simp] at h
 exact h

/-! ### impl_Disk_clone: a text by hand -/
-- import Derived.Deep.RegionLaw
set_option maxHeartbeats 4000000 in
set_option maxRecDepth 100000 in
theorem impl_Disk_clone.calls (A0 : Option Addr) (c0 : Nat) (l0 : List Int) (A1 : Option Addr) (c1 : Nat) (l1 : List S79) (a2 : Int) (a3 : Bool) (w : World) (hr0 : Kd.C (Kd.int .u8) w A0 l0.length l0) (hc0 : l0.length ≤ c0) (hr1 : Kd.C k79 w A1 l1.length l1) (hc1 : l1.length ≤ c1) (h0 : l0.length ≤ 1048576) (hok : okPendS l1) :
  Calls Try.prog 56 #[.agg #[.slice A0 l0.length c0, .slice A1 l1.length c1, .int .i64 a2, .bool a3]] w fun e w' => ∃ v0_ v1_ : Value, e = .returned (.agg #[v0_, v1_, .int .i64 a2, .bool a3]) ∧ Kd.R (Kd.int .u8) 5 w' w.heap.size (fun _ => True) v0_ l0 ∧ Kd.S k79 79 w' w.heap.size (fun k_ => some k_ ≠ (v0_ : Value).ownBlock) v1_ l1 ∧ Below w.heap.size w w' := by
 have HR0 := Aside0.mk hr0
 have HC0 := Aside0.mk hc0
 have HR1 := Aside0.mk hr1
 have HC1 := Aside0.mk hc1
 have HL := Aside0.mk h0
 have HOK := Aside0.mk hok
 clear hr0 hc0 hr1 hc1 h0 hok
 have hu25 := Try.underlying25
 have hu79 := Try.underlying79
 have HB := Aside0.mk (Below.refl w.heap.size w)
 go_enter Try.func56, Try.ntmps56
 go_wp2_with (first | ((with_reducible refine gate_builtin (b := .append) (xs := #[.tmp 12, .tmp 14]) rfl ?_); at_builtin; refine Kd.R_append_rows (Kd.int .u8) (w0 := w) w.heap.size rfl (.tmp 12) (.tmp 14) 22 5 (.int .u8 0) 1 rfl Try.underlying22 info5 rfl (by decide) (by omega) (.slice none 0 0) [] l0 _ _ _ (fun _ => True) (fun _ => False) rfl rfl (Kd.R_nil _ _ _ _ _) (Kd.C_alloc (Kd.C_alloc (Kd.C_alloc HR0.out _) _) _) (fun _ _ h => h) (fun _ h => h.elim) (fun _ _ => trivial) (below_alloc (below_alloc (below_alloc HB.out _) _) _) (by simp; omega) (by have := HL.out; simp; omega) ?_; intro v w2 ho hb hg hat; rw [List.nil_append] at ho; have N_K1 := Aside0.mk (blk_grown (blk_alloc (blk_alloc (blk_new w _) _) _) hg (by simp [Value.ownBlock])); have N_K2 := Aside0.mk (blk_grown (blk_alloc (blk_new2 w _ _) _) hg (by simp [Value.ownBlock])); have N_K3 := Aside0.mk (blk_grown (blk_new3 w _ _ _) hg (by simp [Value.ownBlock])); obtain ⟨DA, dc, rfl⟩ := Kd.R_slice ho; have HO := Aside0.mk ho; have HB2 := Aside0.mk hb; clear ho hb hg hat; obtain ⟨z0, z1, z2, z3, y0, y1, y2, y3⟩ := blk_cells4 N_K1.out; obtain ⟨x0, x1, x2, x3, u0, u1, u2, u3⟩ := blk_cells4 N_K3.out; have yl := blk_lt N_K1.out; have ul := blk_lt N_K3.out))
 go_loopg [5, 20] l1.length (fun kq v5 v20 w' => ∃ (i : Nat) (v1 : Value), v20 = .int .i64 i ∧ Aside0 (i ≤ l1.length ∧ kq = l1.length - i) ∧ Aside0 (w'.heap[w.heap.size + 1]? = some (.cells #[.slice none 0 0, .slice none 0 0, .int .i64 0, .bool false] 25 (0, 0))) ∧ Aside0 (w'.heap[w.heap.size + 1 + 1]? = some (.cells #[.slice DA l0.length dc, v1, .int .i64 a2, .bool a3] 25 (0, 0))) ∧ Aside0 (Kd.R (Kd.int .u8) 5 w' w.heap.size (fun _ => True) (.slice DA l0.length dc) l0) ∧ Aside0 (Kd.S k79 79 w' w.heap.size (fun k_ => some k_ ≠ (.slice DA l0.length dc : Value).ownBlock) v1 (l1.take i)) ∧ Aside0 (Below w.heap.size w w'))
 case atStart =>
  refine ⟨0, .slice none 0 0, rfl, ⟨by omega, rfl⟩, ⟨blk_far N_K2.out (by simp) _⟩, ⟨blk_put N_K3.out 0 _ rfl⟩, ⟨?_⟩, ⟨Kd.S_nil _ _ _ _ _⟩, ⟨below_setB HB2.out (by omega) _ _⟩⟩
  exact Kd.R_mono (Kd.R_far (p := ⟨w.heap.size + 1 + 1, 0, none⟩) (Kd.R_types HO.out N_K3.out (by decide)) (fun _ hk => hk.2) _) (fun _ _ => trivial)
 case round =>
  clear z0 z1 z2 z3 y0 y1 y2 y3 yl x0 x1 x2 x3 u0 u1 u2 u3 ul N_K1 N_K2 N_K3 HO HB HB2
  obtain ⟨i, v1, rfl, HI, K2, K3, HRo, HSo, HB⟩ := hrel
  obtain ⟨B1, b1, ev1⟩ := Kd.S_slice HSo.out
  generalize hn1 : (l1.take i).length = n1 at ev1
  have HN1 := Aside0.mk hn1
  clear hn1
  subst ev1
  obtain ⟨x0, x1, x2, x3, u0, u1, u2, u3⟩ := blk_cells4 K3.out
  have ul := blk_lt K3.out
  have hil : l1.length ≤ 1048576 := HOK.out.1
  by_cases ci : (i : Int) < (l1.length : Int)
  ·obtain ⟨ad, A1', c1', e_, hx0, hx1, hl, hC⟩ := at_T79 (Kd.C_below HR1.out HB.out) (i : Int) (by omega) (by omega)
   cases e_
   rw [Int.toNat_natCast] at hx0 hx1
   have hp : l1.take (i + 1) = l1.take i ++ [rd_T79 l1 (i : Int)] := by
    unfold rd_T79
    rw [List.take_succ_eq_append_getElem (by omega), Int.toNat_natCast, List.getD_eq_getElem?_getD, List.getElem?_eq_getElem (by omega)]
    rfl
   have hm : (rd_T79 l1 (i : Int)).f1.length ≤ 1048576 := HOK.out.2 _ (by unfold rd_T79; rw [Int.toNat_natCast, List.getD_eq_getElem?_getD, List.getElem?_eq_getElem (by omega)]; exact List.getElem_mem _)
   have HP := Aside0.mk hp
   have HM := Aside0.mk hm
   have HC := Aside0.mk hC
   have HLp := Aside0.mk hl
   clear hp hm hC hl
   generalize rd_T79 l1 (i : Int) = p at *
   go_wp2_with fail
   have N_K2 := Aside0.mk (blk_alloc K2.out (.cells #[.int .i64 p.f0, .slice A1' p.f1.length c1'] 79))
   have N_K3 := Aside0.mk (blk_alloc K3.out (.cells #[.int .i64 p.f0, .slice A1' p.f1.length c1'] 79))
   have N_HB := Aside0.mk (below_alloc HB.out (.cells #[.int .i64 p.f0, .slice A1' p.f1.length c1'] 79))
   have N_HC := Aside0.mk (Kd.C_alloc HC.out (.cells #[.int .i64 p.f0, .slice A1' p.f1.length c1'] 79))
   have N_HR := Aside0.mk (Kd.R_alloc HRo.out (.cells #[.int .i64 p.f0, .slice A1' p.f1.length c1'] 79))
   have N_HS := Aside0.mk (Kd.S_bound (Kd.S_alloc HSo.out (.cells #[.int .i64 p.f0, .slice A1' p.f1.length c1'] 79)))
   have KP := Aside0.mk (blk_new wr (.cells #[.int .i64 p.f0, .slice A1' p.f1.length c1'] 79))
   clear K2 K3 HB HC HRo HSo x0 x1 x2 x3 u0 u1 u2 u3 ul hx0 hx1
   generalize hww : wr.alloc (.cells #[.int .i64 p.f0, .slice A1' p.f1.length c1'] 79) = ww at *
   have HWW := Aside0.mk hww
   clear hww
   generalize wr.heap.size = bp at *
   obtain ⟨x0, x1, x2, x3, u0, u1, u2, u3⟩ := blk_cells4 N_K3.out
   have ul := blk_lt N_K3.out
   have pl := blk_lt KP.out
   have pz0 : ww.cell? ⟨bp, 0, none⟩ = some (.int .i64 p.f0) := (blk_cell KP.out 0).trans rfl
   have pz1 : ww.cell? ⟨bp, 1, none⟩ = some (.slice A1' p.f1.length c1') := (blk_cell KP.out 1).trans rfl
   go_region_law (first
    | (refine Kd.R_append_rows_step (Kd.int .u8) (w0 := ww.drew) (W := ww.drew) ww.drew.heap.size (by rfl) (.const (.slice none 0 0)) (.tmp 29) 22 5 (.int .u8 0) 1 rfl Try.underlying22 info5 rfl (by decide) (by omega) (.slice none 0 0) [] p.f1 _ _ _ (fun _ => True) (fun _ => False) rfl rfl (Kd.R_nil _ _ _ _ _) (Kd.C_drew N_HC.out) (fun _ _ h => h) (fun _ h => h.elim) (fun _ _ => trivial) (Below.refl _ _) (Nat.le_refl _) (by have := HM.out; simp; omega) ?_
       intro v30 w3 ho hb hg hat
       rw [List.nil_append] at ho
       obtain ⟨EA, ec, ev30⟩ := Kd.R_slice ho
       subst ev30
       have HE := Aside0.mk ho
       have HB3 := Aside0.mk hb
       clear ho hb hg hat
       have K3d := Aside0.mk (blk_below (blk_drew N_K3.out) HB3.out)
       have KPd := Aside0.mk (blk_below (blk_drew KP.out) HB3.out)
       clear x0 x1 x2 x3 u0 u1 u2 u3 ul pl pz0 pz1
       obtain ⟨x0, x1, x2, x3, u0, u1, u2, u3⟩ := blk_cells4 K3d.out
       have ul := blk_lt K3d.out
       have pl := blk_lt KPd.out
       have pz0 : w3.cell? ⟨bp, 0, none⟩ = some (.int .i64 p.f0) := (blk_cell KPd.out 0).trans rfl
       have pz1 : w3.cell? ⟨bp, 1, none⟩ = some (.slice A1' p.f1.length c1') := (blk_cell KPd.out 1).trans rfl)
    | (have hle : w.heap.size ≤ ww.drew.heap.size := N_HB.out.size
       have HR3 := Aside0.mk (Kd.R_below (Kd.R_drew N_HR.out) HB3.out)
       have HS3 := Aside0.mk (Kd.S_below (Kd.S_drew N_HS.out) HB3.out)
       have HBB := Aside0.mk (below_step (below_drew N_HB.out) HB3.out)
       have hE0 := Kd.R_base HE.out
       have hD0 := Kd.R_lt N_HR.out
       have hS0 := Kd.S_lt N_HS.out
       have dE := Aside0.mk hE0
       have dD := Aside0.mk hD0
       have dS := Aside0.mk hS0
       clear hE0 hD0 hS0
       refine Kd.S_append_step k79 (w0 := w) (W := w3) w.heap.size (by rfl) (.tmp 25) (.tmp 32) 23 79 (.agg #[(.int .i64 0), (.slice none 0 0)]) 32 rfl Try.underlying23 info79 rfl (by decide) (by omega) (.slice B1 n1 b1) (l1.take i) p [.int .i64 p.f0, .slice EA p.f1.length ec] (fun k_ => some k_ ≠ (.slice DA l0.length dc : Value).ownBlock) (fun k_ => some k_ = (.slice EA p.f1.length ec : Value).ownBlock) rfl rfl ?aP ?aK ?aF ?aO ?aB ?aS ?aL ?_
       case aP => exact k79_mkM _ _ _ p (Kd.R_tight rfl (Kd.R_lower HE.out hle))
       case aK => exact fun k hk => ⟨fun he => by have h1 := dE.out k hk.symm; have h2 := dD.out k he.symm; exact absurd h2 (Nat.not_lt.2 h1), fun he => by have h1 := dE.out k hk.symm; have h2 := dS.out k he.symm; exact absurd h2 (Nat.not_lt.2 h1)⟩
       case aF => exact fun k hk => Kd.fresh' (Kd.R_lt HR3.out) k hk
       case aO => exact Kd.S_mono HS3.out (fun k hk => ⟨hk.1, fun he => by have h1 := dE.out k he.symm; exact absurd hk.2.2.1 (Nat.not_lt.2 h1)⟩)
       case aB => exact HBB.out
       case aS => exact HBB.out.size
       case aL => (have := HN1.out; simp only [List.length_take]; omega)
       intro v33 w5 ho hb hg hat
       have HS5 := Aside0.mk ho
       have HB5 := Aside0.mk hb
       have HR5 := Aside0.mk (Kd.R_over' HR3.out (Kd.S_typed HS3.out) (by decide) hg)
       have K3e := Aside0.mk (blk_grown K3d.out hg (Kd.S_ne HS3.out K3d.out (by decide)))
       have K2d := blk_below (blk_drew N_K2.out) HB3.out
       have K2e := Aside0.mk (blk_grown K2d hg (Kd.S_ne HS3.out K2d (by decide)))
       clear ho hb hg hat K2d
       obtain ⟨GA, gc, ev33⟩ := Kd.S_slice HS5.out
       generalize hn5 : (l1.take i ++ [p]).length = n5 at ev33
       have HN5 := Aside0.mk hn5
       clear hn5
       subst ev33
       clear x0 x1 x2 x3 u0 u1 u2 u3 ul pl pz0 pz1
       obtain ⟨x0, x1, x2, x3, u0, u1, u2, u3⟩ := blk_cells4 K3e.out
       have ul := blk_lt K3e.out))
   all_goals
    go_wp2_with fail
    go_roundg (l1.length - (i + 1))
    case measure => have := HI.out; omega
    case rel =>
      refine ⟨i + 1, .slice GA n5 gc, by first | rfl | simp, ⟨by omega, rfl⟩, ⟨blk_far K2e.out (by simp) _⟩, ⟨blk_put K3e.out 1 _ rfl⟩, ⟨?_⟩, ⟨?_⟩, ⟨below_setB HB5.out (by omega) _ _⟩⟩
      · exact Kd.R_mono (Kd.R_far (p := ⟨w.heap.size + 1 + 1, 1, none⟩) (Kd.R_types HR5.out K3e.out (by decide)) (fun _ hk => hk.2) _) (fun _ _ => trivial)
      · rw [HP.out]
        exact Kd.S_mono (Kd.S_far (p := ⟨w.heap.size + 1 + 1, 1, none⟩) (Kd.S_types HS5.out K3e.out (by decide)) (fun _ hk => hk.2) _) (fun _ hk => hk.1)
  ·have hi : i = l1.length := by have := HI.out; omega
   subst hi
   obtain ⟨z0, z1, z2, z3, y0, y1, y2, y3⟩ := blk_cells4 K2.out
   have yl := blk_lt K2.out
   go_wp2_with fail
   rw [List.take_length] at HSo
   refine bodyPost_ret (results_cell_row rfl _ _ (w.heap.size + 1) 25 #[.slice DA l0.length dc, .slice B1 n1 b1, .int .i64 a2, .bool a3] (0, 0) _ rfl (blk_set4 K2.out) Try.underlying25 rfl (by kernel_rfl)) rfl ⟨_, _, rfl, ?_, ?_, ?_⟩
   ·exact Kd.R_mono (Kd.R_far (p := ⟨w.heap.size + 1, 3, none⟩) (Kd.R_far (p := ⟨w.heap.size + 1, 2, none⟩) (Kd.R_far (p := ⟨w.heap.size + 1, 1, none⟩) (Kd.R_far (p := ⟨w.heap.size + 1, 0, none⟩) (Kd.R_types HRo.out K2.out (by decide)) (fun _ hk => hk.2) _) (fun _ hk => hk.2) _) (fun _ hk => hk.2) _) (fun _ hk => hk.2) _) (fun _ _ => trivial)
   ·exact Kd.S_mono (Kd.S_far (p := ⟨w.heap.size + 1, 3, none⟩) (Kd.S_far (p := ⟨w.heap.size + 1, 2, none⟩) (Kd.S_far (p := ⟨w.heap.size + 1, 1, none⟩) (Kd.S_far (p := ⟨w.heap.size + 1, 0, none⟩) (Kd.S_types HSo.out K2.out (by decide)) (fun _ hk => hk.2) _) (fun _ hk => hk.2) _) (fun _ hk => hk.2) _) (fun _ hk => hk.2) _) (fun _ hk => hk.1)
   ·exact below_setB (below_setB (below_setB (below_setB HB.out (by omega) _ _) (by omega) _ _) (by omega) _ _) (by omega) _ _

/-! ### impl_Disk_powered: a text by hand -/
-- import Derived.Recover
-- import Derived.Defers
def lostP : PanicEntry := { v := .iface 125 (.agg #[]), recovered := false }
set_option maxRecDepth 100000 in
theorem ne_lost (W : World) : (binOp .neq 20 (.iface 125 (.agg #[])) (.iface 125 (.agg #[]))).run Try.prog W = .ok (.bool false) W := by
 rfl
set_option maxRecDepth 100000 in
theorem pow_catch (b : Nat) (v0 v1 : Value) (f : Int) (d : Bool) (w : World) (K : w.heap[b]? = some (.cells #[v0, v1, .int .i64 f, .bool d] 25 (0, 0))) :
  CallsD Try.prog 106 #[.pointer (some ⟨b, 0, none⟩)] (.panicking [{ v := .iface 125 (.agg #[]), recovered := false }]) w fun e u' w' =>
   e = .returned (.tuple #[]) ∧ u' = .panicking [{ v := .iface 125 (.agg #[]), recovered := true }] ∧ w' = w.setCell ⟨b, 3, none⟩ (.bool true) := by
 obtain ⟨z0, z1, z2, z3, y0, y1, y2, y3⟩ := blk_cells4 K
 have hu25 := Try.underlying25
 refine callsD_of_wpS Try.func106 rfl fun c₀ cs hu => ?_
 apply wpS_seq
 apply wpS_region
 simp [wpOpsS, go_sem, recoverD, hu, Try.ntmps106, Exit.thenS]
 refine wpS_of_wp ?_
 simp only [List.size_toArray, List.length_cons, List.length_nil, Array.replicate_succ, Array.replicate_zero, List.push_toArray, List.append_toArray, List.nil_append, List.cons_append, List.setIfInBounds_toArray, List.set_cons_zero, List.set_cons_succ]
 clear hu
 have hne := ne_lost
 have yl := blk_lt K
 clear K
 go_wp2_with fail
 simp [bodyPostS, results, Try.results106]
set_option maxRecDepth 100000 in
theorem pow_idle (b : Nat) (w : World) :
  CallsD Try.prog 106 #[.pointer (some ⟨b, 0, none⟩)] .returning w fun e u' w' =>
   e = .returned (.tuple #[]) ∧ u' = .returning ∧ w' = w := by
 refine callsD_of_wpS Try.func106 rfl fun c₀ cs hu => ?_
 apply wpS_seq
 apply wpS_region
 simp [wpOpsS, go_sem, recoverD, hu, Try.ntmps106, Exit.thenS]
 refine wpS_of_wp ?_
 simp only [List.size_toArray, List.length_cons, List.length_nil, Array.replicate_succ, Array.replicate_zero, List.push_toArray, List.append_toArray, List.nil_append, List.cons_append, List.setIfInBounds_toArray, List.set_cons_zero, List.set_cons_succ]
 go_wp2_with fail
 cases c₀
 simp_all [bodyPostS, results, Try.results106]

/-! ### impl_Disk_powered1: a text by hand -/
-- import Derived.Recover
-- import Derived.Defers
set_option maxRecDepth 100000 in
theorem pow1_dies (b bf g : Nat) (cap : Array Value) (w : World) (X : World → Prop) (hcf : ∀ (args : Array Value) (W : World), (callFunc g args).run Try.prog W = .ok (.enter g args) W) (hf : w.cell? ⟨bf, 0, none⟩ = some (.func (.func g) #[] cap))
  (HC : Calls Try.prog g (#[.pointer (some ⟨b, 0, none⟩)] ++ cap) w fun e w' => e = .panicked [{ v := .iface 125 (.agg #[]), recovered := false }] ∧ X w')
  (hX : ∀ w', X w' → ∃ v0 v1 f d, w'.heap[b]? = some (.cells #[v0, v1, .int .i64 f, .bool d] 25 (0, 0))) :
  Calls Try.prog 105 #[.pointer (some ⟨b, 0, none⟩), .pointer (some ⟨bf, 0, none⟩)] w fun e w' => e = .returned (.tuple #[]) ∧ ∃ w1, X w1 ∧ w' = w1.setCell ⟨b, 3, none⟩ (.bool true) := by
 have hmf : ∀ (fn : Fn) (first cap : Array Value) (w : World), (Instr.makeFunc fn first cap).run Try.prog w = .ok (.func fn first cap) w := fun _ _ _ _ => rfl
 go_enter_defers Try.func105, Try.ntmps105
 go_wp2_with fail
 refine HC.mono ?_
 rintro e w1 ⟨rfl, hx⟩
 obtain ⟨v0, v1, f, d, hb⟩ := hX w1 hx
 go_wp2_with fail
 refine leaves_cons (f := 106) (args := #[.pointer (some ⟨b, 0, none⟩)]) (by simp) (by simp [go_sem]) ?_
 refine (pow_catch b v0 v1 f d w1 hb).mono ?_
 rintro e u' w2 ⟨rfl, rfl, rfl⟩
 simp [Leaves, settle, results, Try.results105, go_sem]
 exact ⟨w1, hx, rfl⟩
set_option maxRecDepth 100000 in
theorem pow1_lives (b bf g : Nat) (cap : Array Value) (w : World) (X : World → Prop) (hcf : ∀ (args : Array Value) (W : World), (callFunc g args).run Try.prog W = .ok (.enter g args) W) (hf : w.cell? ⟨bf, 0, none⟩ = some (.func (.func g) #[] cap))
  (HC : Calls Try.prog g (#[.pointer (some ⟨b, 0, none⟩)] ++ cap) w fun e w' => e = .returned (.tuple #[]) ∧ X w') :
  Calls Try.prog 105 #[.pointer (some ⟨b, 0, none⟩), .pointer (some ⟨bf, 0, none⟩)] w fun e w' => e = .returned (.tuple #[]) ∧ X w' := by
 have hmf : ∀ (fn : Fn) (first cap : Array Value) (w : World), (Instr.makeFunc fn first cap).run Try.prog w = .ok (.func fn first cap) w := fun _ _ _ _ => rfl
 go_enter_defers Try.func105, Try.ntmps105
 go_wp2_with fail
 refine HC.mono ?_
 rintro e w1 ⟨rfl, hx⟩
 go_wp2_with fail
 refine leaves_cons (f := 106) (args := #[.pointer (some ⟨b, 0, none⟩)]) (by simp) (by simp [go_sem]) ?_
 refine (pow_idle b w1).mono ?_
 rintro e u' w2 ⟨rfl, rfl, rfl⟩
 simp [Leaves, settle, results, Try.results105, go_sem]
 exact hx

/-! ### impl_Disk_powered2: a text by hand -/
def PowX (lo b : Nat) (W : World) (r1 : List Int) (r2 : List S79) (r3 : Int) (r4 : Bool) (W' : World) : Prop :=
 ∃ (A B : Option Addr) (n c m d : Nat), W'.heap[b]? = some (.cells #[.slice A n c, .slice B m d, .int .i64 r3, .bool r4] 25 (0, 0)) ∧ Kd.R (Kd.int .u8) 5 W' lo (fun _ => True) (.slice A n c) r1 ∧ Kd.S k79 79 W' lo (fun k => some k ≠ (.slice A n c : Value).ownBlock) (.slice B m d) r2 ∧ Below lo W W'
set_option maxHeartbeats 4000000 in
set_option maxRecDepth 100000 in
theorem impl_Disk_powered.calls (g : Nat) (cap : Array Value) (hcf : ∀ (args : Array Value) (W : World), (callFunc g args).run Try.prog W = .ok (.enter g args) W) (A0 : Option Addr) (c0 : Nat) (l0 : List Int) (A1 : Option Addr) (c1 : Nat) (l1 : List S79) (a2 : Int) (a3 : Bool) (w : World) (hr0 : Kd.C (Kd.int .u8) w A0 l0.length l0) (hc0 : l0.length ≤ c0) (hr1 : Kd.C k79 w A1 l1.length l1) (hc1 : l1.length ≤ c1) (h0 : l0.length ≤ 1048576) (hok : okPendS l1)
   (die : Bool) (r1 : List Int) (r2 : List S79) (r3 : Int) (r4 : Bool)
   (HC : ∀ (lo b : Nat) (W : World), w.heap.size ≤ lo → lo ≤ b → Below w.heap.size w W → PowX lo b W l0 l1 a2 a3 W →
     Calls Try.prog g (#[.pointer (some ⟨b, 0, none⟩)] ++ cap) W fun e W' => e = (if die = true then .panicked [{ v := .iface 125 (.agg #[]), recovered := false }] else .returned (.tuple #[])) ∧ PowX lo b W r1 r2 r3 r4 W') :
   Calls Try.prog 57 #[.agg #[.slice A0 l0.length c0, .slice A1 l1.length c1, .int .i64 a2, .bool a3], .func (.func g) #[] cap] w fun e w' => ∃ v0_ v1_ : Value, e = .returned (.agg #[v0_, v1_, .int .i64 r3, .bool (r4 || die)]) ∧ Kd.R (Kd.int .u8) 5 w' w.heap.size (fun _ => True) v0_ r1 ∧ Kd.S k79 79 w' w.heap.size (fun k_ => some k_ ≠ (v0_ : Value).ownBlock) v1_ r2 ∧ Below w.heap.size w w' := by
 have HR0 := Aside0.mk hr0
 have HC0 := Aside0.mk hc0
 have HR1 := Aside0.mk hr1
 have HC1 := Aside0.mk hc1
 have HCB := Aside0.mk HC
 have HCF := Aside0.mk hcf
 have HOK := Aside0.mk hok
 have HL0 := Aside0.mk h0
 clear hr0 hc0 hr1 hc1 HC hcf hok h0
 have hu25 := Try.underlying25
 have hmf : ∀ (fn : Fn) (first cap : Array Value) (w : World), (Instr.makeFunc fn first cap).run Try.prog w = .ok (.func fn first cap) w := fun _ _ _ _ => rfl
 have HB := Aside0.mk (Below.refl w.heap.size w)
 go_enter Try.func57, Try.ntmps57
 go_wp2_with fail
 refine (impl_Disk_clone.calls _ _ l0 _ _ l1 a2 a3 _ (Kd.C_alloc (Kd.C_alloc (Kd.C_alloc HR0.out _) _) _) HC0.out (Kd.C_alloc (Kd.C_alloc (Kd.C_alloc HR1.out _) _) _) HC1.out HL0.out HOK.out).mono ?_
 rintro e w1 ⟨v0, v1, rfl, hR, hS, gb⟩
 obtain ⟨DA, dc, rfl⟩ := Kd.R_slice hR
 obtain ⟨EA, ec, rfl⟩ := Kd.S_slice hS
 have K3 := Aside0.mk (blk_below (blk_alloc (blk_new2 w _ _) _) gb)
 have K4 := Aside0.mk (blk_below (blk_new3 w _ _ _) gb)
 have N_HB := Aside0.mk (below_step (below_alloc (below_alloc (below_alloc HB.out _) _) _) gb)
 clear HB
 have HB := N_HB
 clear N_HB
 simp only [World.size_alloc] at hR hS gb
 have hsz := gb.size
 have k4 := blk_lt K4.out
 have k3 := blk_lt K3.out
 clear gb
 go_wp2_with fail
 have W0 := below_alloc HB.out (.cells #[.slice DA l0.length dc, .slice EA l1.length ec, .int .i64 a2, .bool a3] 25)
 have hX0 : PowX (w.heap.size + 1 + 1 + 1) w1.heap.size (w1.alloc (.cells #[.slice DA l0.length dc, .slice EA l1.length ec, .int .i64 a2, .bool a3] 25)) l0 l1 a2 a3 (w1.alloc (.cells #[.slice DA l0.length dc, .slice EA l1.length ec, .int .i64 a2, .bool a3] 25)) :=
   ⟨DA, EA, _, dc, _, ec, blk_new _ _, Kd.R_alloc hR _, Kd.S_alloc hS _, ⟨rfl, rfl, rfl, Nat.le_refl _, fun _ _ => rfl⟩⟩
 have hC := HCB.out (w.heap.size + 1 + 1 + 1) w1.heap.size _ (by omega) (by have := HB.out.size; simpa using hsz) W0 hX0
 have hcell : (w1.alloc (.cells #[.slice DA l0.length dc, .slice EA l1.length ec, .int .i64 a2, .bool a3] 25)).cell? ⟨w.heap.size + 1, 0, none⟩ = some (.func (.func g) #[] cap) := (blk_cell (blk_alloc K3.out _) 0).trans rfl
 have K4a := Aside0.mk (blk_alloc K4.out (.cells #[.slice DA l0.length dc, .slice EA l1.length ec, .int .i64 a2, .bool a3] 25))
 generalize hW : w1.alloc (.cells #[.slice DA l0.length dc, .slice EA l1.length ec, .int .i64 a2, .bool a3] 25) = W at *
 have HW := Aside0.mk hW
 have HWB := Aside0.mk W0
 clear hW hX0 W0 hR hS K3 K4 k3 k4
 have hb5 : w.heap.size + 1 + 1 + 1 ≤ w1.heap.size := by simpa using hsz
 clear hsz
 generalize w1.heap.size = b5 at *
 cases die with
 | true =>
   refine (pow1_dies b5 (w.heap.size + 1) g cap W (PowX (w.heap.size + 1 + 1 + 1) b5 W r1 r2 r3 r4) HCF.out hcell (by simpa using hC) (fun w' hx => by obtain ⟨A, B, n, c, m, d, hb, _⟩ := hx; exact ⟨_, _, _, _, hb⟩)).mono ?_
   rintro e w3 ⟨rfl, w2, ⟨A, B, n, c, m, d, hb, hR, hS, hbb⟩, rfl⟩
   have K5 := Aside0.mk (blk_put hb 3 (.bool true) rfl)
   have K4c := Aside0.mk (show (w2.setCell ⟨b5, 3, none⟩ (.bool true)).heap[w.heap.size + 1 + 1]? = _ from blk_far ((hbb.block _ (by omega)).trans K4a.out) (by show w.heap.size + 1 + 1 ≠ b5; omega) _)
   have HR5 := Aside0.mk (Kd.R_mono (Kd.R_far (p := ⟨b5, 3, none⟩) (Kd.R_types hR hb (by decide)) (fun _ hk => hk.2) (.bool true)) (ok' := fun _ => True) (fun _ _ => trivial))
   have HS5 := Aside0.mk (Kd.S_mono (Kd.S_far (p := ⟨b5, 3, none⟩) (Kd.S_types hS hb (by decide)) (fun _ hk => hk.2) (.bool true)) (ok' := fun k => some k ≠ (.slice A n c : Value).ownBlock) (fun _ hk => hk.1))
   have HB5 := Aside0.mk (show Below (w.heap.size + 1 + 1 + 1) W (w2.setCell ⟨b5, 3, none⟩ (.bool true)) from hbb.setCell hb5 _)
   clear hb hR hS hbb hcell hC
   generalize w2.setCell ⟨b5, 3, none⟩ (.bool true) = w3 at *
   obtain ⟨z0, z1, z2, z3, y0, y1, y2, y3⟩ := blk_cells4 K5.out
   obtain ⟨x0, x1, x2, x3, u0, u1, u2, u3⟩ := blk_cells4 K4c.out
   have yl := blk_lt K5.out
   have ul := blk_lt K4c.out
   go_wp2_with fail
   refine bodyPost_ret (results_cell_row rfl _ _ (w.heap.size + 1 + 1) 25 #[.slice A n c, .slice B m d, .int .i64 r3, .bool true] (0, 0) _ rfl (blk_set4 K4c.out) Try.underlying25 rfl (by kernel_rfl)) rfl ⟨.slice A n c, .slice B m d, by simp, ?_, ?_, ?_⟩
   · exact Kd.R_lower (R_farB (R_farB (R_farB (R_farB HR5.out (by omega) _ _) (by omega) _ _) (by omega) _ _) (by omega) _ _) (by omega)
   · exact Kd.S_lower (S_farB (S_farB (S_farB (S_farB HS5.out (by omega) _ _) (by omega) _ _) (by omega) _ _) (by omega) _ _) (by omega)
   · exact below_setB (below_setB (below_setB (below_setB (below_weaken HWB.out (by omega) HB5.out) (by omega) _ _) (by omega) _ _) (by omega) _ _) (by omega) _ _
 | false =>
   refine (pow1_lives b5 (w.heap.size + 1) g cap W (PowX (w.heap.size + 1 + 1 + 1) b5 W r1 r2 r3 r4) HCF.out hcell (by simpa using hC)).mono ?_
   rintro e w3 ⟨rfl, A, B, n, c, m, d, hb, hR, hS, hbb⟩
   have K5 := Aside0.mk hb
   have K4c := Aside0.mk ((hbb.block _ (by omega)).trans K4a.out)
   have HR5 := Aside0.mk hR
   have HS5 := Aside0.mk hS
   have HB5 := Aside0.mk hbb
   clear hb hR hS hbb hcell hC
   obtain ⟨z0, z1, z2, z3, y0, y1, y2, y3⟩ := blk_cells4 K5.out
   obtain ⟨x0, x1, x2, x3, u0, u1, u2, u3⟩ := blk_cells4 K4c.out
   have yl := blk_lt K5.out
   have ul := blk_lt K4c.out
   go_wp2_with fail
   refine bodyPost_ret (results_cell_row rfl _ _ (w.heap.size + 1 + 1) 25 #[.slice A n c, .slice B m d, .int .i64 r3, .bool r4] (0, 0) _ rfl (blk_set4 K4c.out) Try.underlying25 rfl (by kernel_rfl)) rfl ⟨.slice A n c, .slice B m d, by simp, ?_, ?_, ?_⟩
   · exact Kd.R_lower (R_farB (R_farB (R_farB (R_farB HR5.out (by omega) _ _) (by omega) _ _) (by omega) _ _) (by omega) _ _) (by omega)
   · exact Kd.S_lower (S_farB (S_farB (S_farB (S_farB HS5.out (by omega) _ _) (by omega) _ _) (by omega) _ _) (by omega) _ _) (by omega)
   · exact below_setB (below_setB (below_setB (below_setB (below_weaken HWB.out (by omega) HB5.out) (by omega) _ _) (by omega) _ _) (by omega) _ _) (by omega) _ _

/-! ### impl_Disk_spend: a text by hand -/
set_option maxRecDepth 100000 in
theorem spend_dies (b : Nat) (v0 v1 : Value) (d : Bool) (w : World) (K : w.heap[b]? = some (.cells #[v0, v1, .int .i64 0, .bool d] 25 (0, 0))) :
  Calls Try.prog 107 #[.pointer (some ⟨b, 0, none⟩)] w fun e w' => e = .panicked [{ v := .iface 125 (.agg #[]), recovered := false }] ∧ w' = w := by
 have hu25 := Try.underlying25
 obtain ⟨z0, z1, z2, z3, y0, y1, y2, y3⟩ := blk_cells4 K
 have yl := blk_lt K
 clear K
 have hpn : ∀ (t : TypeId) (v : Value) (W : World), (Instr.panic (.iface t v)).run Try.prog W = .halt (.panic (.iface t v)) W := fun _ _ _ => rfl
 go_enter Try.func107, Try.ntmps107
 go_wp2_with fail
 exact ⟨rfl, rfl, rfl⟩
set_option maxRecDepth 100000 in
theorem spend_ok (b : Nat) (v0 v1 : Value) (f : Int) (d : Bool) (w : World) (hf : f ≠ 0) (h1 : -1 ≤ f) (h2 : f ≤ 1000000) (K : w.heap[b]? = some (.cells #[v0, v1, .int .i64 f, .bool d] 25 (0, 0))) :
  Calls Try.prog 107 #[.pointer (some ⟨b, 0, none⟩)] w fun e w' => e = .returned (.tuple #[]) ∧ w' = if 0 < f then w.setCell ⟨b, 2, none⟩ (.int .i64 (f - 1)) else w := by
 have hu25 := Try.underlying25
 obtain ⟨z0, z1, z2, z3, y0, y1, y2, y3⟩ := blk_cells4 K
 have yl := blk_lt K
 clear K
 go_enter Try.func107, Try.ntmps107
 have c0 : (f == 0) = false := beq_eq_false_iff_ne.2 hf
 by_cases hp : 0 < f
 ·rw [if_pos hp]
  go_wp2_with fail
  go_end0
  exact ⟨rfl, rfl⟩
 ·rw [if_neg hp]
  go_wp2_with fail
  go_end0
  exact ⟨rfl, rfl⟩

/-! ### impl_Disk_sync: a text by hand -/
-- import Derived.Laws.CopyOwn
-- import Derived.Deep.RegionLaw
def syF (l0 : List Int) (l1 : List S79) : Nat → List Int
 | 0 => l0
 | i + 1 => ovr (syF l0 l1 i) (rd_T79 l1 (i : Int)).f0 (rd_T79 l1 (i : Int)).f1
theorem syF_len (l0 : List Int) (l1 : List S79) (h : ∀ x ∈ l1, 0 ≤ x.f0 ∧ x.f0 < ((l0.length / 64 : Nat) : Int) ∧ x.f1.length = 64) : ∀ i, i ≤ l1.length → (syF l0 l1 i).length = l0.length := by
 intro i
 induction i with
 | zero => intro _; rfl
 | succ i ih =>
   intro hi
   have h1 := ih (by omega)
   have hx := h _ (rdP_mem l1 i (by omega))
   unfold syF
   rw [ovr_len _ _ _ (by rw [h1, hx.2.2]; omega), h1]
def fuelD (f : Int) : Int := if 0 < f then f - 1 else f
set_option maxHeartbeats 4000000 in
set_option maxRecDepth 100000 in
theorem sync_dies (lo b : Nat) (W : World) (l0 : List Int) (l1 : List S79) (a3 : Bool) (h : PowX lo b W l0 l1 0 a3 W) :
  Calls Try.prog 58 #[.pointer (some ⟨b, 0, none⟩)] W fun e W' => e = .panicked [{ v := .iface 125 (.agg #[]), recovered := false }] ∧ PowX lo b W l0 l1 0 a3 W' := by
 obtain ⟨A, B, n, c, m, d, hb, hR, hS, hB⟩ := h
 go_enter Try.func58, Try.ntmps58
 go_wp2_with fail
 refine (spend_dies b _ _ _ _ hb).mono ?_
 rintro e w' ⟨rfl, rfl⟩
 go_wp2_with fail
 exact ⟨rfl, rfl, A, B, n, c, m, d, hb, hR, hS, hB⟩
set_option maxHeartbeats 4000000 in
set_option maxRecDepth 100000 in
theorem sync_lives (lo b : Nat) (W : World) (l0 : List Int) (l1 : List S79) (a2 : Int) (a3 : Bool) (hv : vD l0 l1 a2 = true) (hf : a2 ≠ 0) (hlo : lo ≤ b) (h : PowX lo b W l0 l1 a2 a3 W) :
  Calls Try.prog 58 #[.pointer (some ⟨b, 0, none⟩)] W fun e W' => e = .returned (.tuple #[]) ∧ PowX lo b W (syF l0 l1 l1.length) [] (fuelD a2) a3 W' := by
 have HP := Aside0.mk (vD_facts hv)
 obtain ⟨A, B, n, c, m, d, hb, hR, hS, hB⟩ := h
 have hn := (Kd.R_reads' hR).1
 have hm := (Kd.S_reads' hS).1
 subst hn hm
 obtain ⟨g, c', tail, e_, hlg, _, hcm, hg, hcc⟩ := R_row hR (by have := HP.out.2.1; omega)
 cases e_
 have HLG := Aside0.mk hlg
 have HCM := Aside0.mk hcm
 have HCC := Aside0.mk hcc
 have HG0 := Aside0.mk hg
 have HS0 := Aside0.mk hS
 have HB0 := Aside0.mk hB
 have K0 := Aside0.mk hb
 have HF := Aside0.mk hf
 have hgb : g ≠ b := blk_ne hg hb (by decide)
 clear hR hS hB hb hlg hcm hcc hg hv hf
 have hu25 := Try.underlying25
 have hu79 := Try.underlying79
 go_enter Try.func58, Try.ntmps58
 go_wp2_with fail
 refine (spend_ok b _ _ a2 a3 _ HF.out HP.out.2.2.2.2.1 HP.out.2.2.2.2.2.1 K0.out).mono ?_
 rintro e w1 ⟨rfl, hw1⟩
 have K1 := Aside0.mk (show w1.heap[b]? = some (.cells #[.slice (some ⟨g, 0, none⟩) l0.length c, .slice B l1.length d, .int .i64 (fuelD a2), .bool a3] 25 (0, 0)) by
  rw [hw1]; unfold fuelD; split
  ·exact blk_put K0.out 2 _ rfl
  ·exact K0.out)
 have HG1 := Aside0.mk (show w1.heap[g]? = some (.cells (l0.map (Value.int .u8) ++ tail).toArray 5 (0, 0)) by
  rw [hw1]; split
  ·exact blk_far HG0.out hgb _
  ·exact HG0.out)
 have HS1 := Aside0.mk (show Kd.S k79 79 w1 lo (fun k => some k ≠ (.slice (some ⟨g, 0, none⟩) l0.length c : Value).ownBlock) (.slice B l1.length d) l1 by
  rw [hw1]; split
  ·exact Kd.S_mono (Kd.S_far (p := ⟨b, 2, none⟩) (Kd.S_types HS0.out K0.out (by decide)) (fun _ hk => hk.2) _) (fun _ hk => hk.1)
  ·exact HS0.out)
 have HB1 := Aside0.mk (show Below lo W w1 by
  rw [hw1]; split
  ·exact HB0.out.setCell hlo _
  ·exact HB0.out)
 clear K0 HG0 HS0 HB0 hw1
 obtain ⟨z0, z1, z2, z3, y0, y1, y2, y3⟩ := blk_cells4 K1.out
 have yl := blk_lt K1.out
 go_wp2_with fail
 go_loopg [11] l1.length (fun kq v11 w' => ∃ (i : Nat), v11 = .int .i64 i ∧ Aside0 (i ≤ l1.length ∧ kq = l1.length - i) ∧ Aside0 (w'.heap[g]? = some (.cells ((syF l0 l1 i).map (Value.int .u8) ++ tail).toArray 5 (0, 0))) ∧ Aside0 (w'.heap[b]? = some (.cells #[.slice (some ⟨g, 0, none⟩) l0.length c, .slice B l1.length d, .int .i64 (fuelD a2), .bool a3] 25 (0, 0))) ∧ Aside0 (Kd.S k79 79 w' lo (fun k => some k ≠ (.slice (some ⟨g, 0, none⟩) l0.length c : Value).ownBlock) (.slice B l1.length d) l1) ∧ Aside0 (Below lo W w'))
 case atStart => exact ⟨0, rfl, ⟨by omega, rfl⟩, ⟨HG1.out⟩, ⟨K1.out⟩, ⟨HS1.out⟩, ⟨HB1.out⟩⟩
 case round =>
  clear z0 z1 z2 z3 y0 y1 y2 y3 yl K1 HG1 HS1 HB1
  obtain ⟨i, rfl, HI, HG, K5, HS, HBr⟩ := hrel
  by_cases ci : (i : Int) < (l1.length : Int)
  ·obtain ⟨ad, A1', c1', e_, hx0, hx1, hl, hC⟩ := at_T79 (Kd.S_reads' HS.out).2.2 (i : Int) (by omega) (by omega)
   subst e_
   rw [Int.toNat_natCast] at hx0 hx1
   have HM := Aside0.mk (HP.out.2.2.2.2.2.2 _ (rdP_mem l1 i (by omega)))
   have HCL := Aside0.mk (syF_len l0 l1 HP.out.2.2.2.2.2.2 i (by omega))
   have HCR := Aside0.mk (show syF l0 l1 (i + 1) = ovr (syF l0 l1 i) (rd_T79 l1 (i : Int)).f0 (rd_T79 l1 (i : Int)).f1 from rfl)
   have HC := Aside0.mk hC
   clear hC hl
   rw [HM.out.2.2] at hx1
   generalize rd_T79 l1 (i : Int) = p at *
   have hil : l1.length ≤ 2000 := HP.out.2.2.2.1
   obtain ⟨z0, z1, z2, z3, y0, y1, y2, y3⟩ := blk_cells4 K5.out
   have yl := blk_lt K5.out
   go_wp2_with fail
   have N_K5 := Aside0.mk (blk_alloc K5.out (.cells #[.int .i64 p.f0, .slice A1' 64 c1'] 79))
   have N_HG := Aside0.mk (blk_alloc HG.out (.cells #[.int .i64 p.f0, .slice A1' 64 c1'] 79))
   have N_HB := Aside0.mk (HBr.out.alloc (by have := blk_lt K5.out; omega) (.cells #[.int .i64 p.f0, .slice A1' 64 c1'] 79))
   have N_HC := Aside0.mk (Kd.C_alloc HC.out (.cells #[.int .i64 p.f0, .slice A1' 64 c1'] 79))
   have N_HS := Aside0.mk (Kd.S_alloc HS.out (.cells #[.int .i64 p.f0, .slice A1' 64 c1'] 79))
   have KP := Aside0.mk (blk_new wr (.cells #[.int .i64 p.f0, .slice A1' 64 c1'] 79))
   clear K5 HG HBr HC HS z0 z1 z2 z3 y0 y1 y2 y3 yl hx0 hx1
   generalize hww : wr.alloc (.cells #[.int .i64 p.f0, .slice A1' 64 c1'] 79) = ww at *
   have HWW := Aside0.mk hww
   clear hww
   obtain ⟨z0, z1, z2, z3, y0, y1, y2, y3⟩ := blk_cells4 N_K5.out
   have yl := blk_lt N_K5.out
   have pz0 : ww.cell? ⟨wr.heap.size, 0, none⟩ = some (.int .i64 p.f0) := (blk_cell KP.out 0).trans rfl
   have pz1 : ww.cell? ⟨wr.heap.size, 1, none⟩ = some (.slice A1' 64 c1') := (blk_cell KP.out 1).trans rfl
   have b0 : 0 ≤ p.f0 := HM.out.1
   have b1 : p.f0 * 64 + 64 ≤ (l0.length : Int) := by have := HM.out.2.1; omega
   have b2 : l0.length ≤ c := by have := HCC.out; omega
   have b3 : l0.length ≤ 65599 := HP.out.2.2.1
   have b4 : ¬ c = (p.f0 * 64).toNat := by omega
   have b5 : IntKind.i64.wrap (p.f0 * 64) = p.f0 * 64 := by rw [i64_w]; unfold wrap64; omega
   have b6 : p.f0 * 64 ≤ (l0.length : Int) := by omega
   have b7 : 0 ≤ p.f0 * 64 := by omega
   obtain ⟨aq, ea, hcs⟩ := C_cells N_HC.out (by rw [HM.out.2.2]; decide)
   have HCS := Aside0.mk hcs
   clear hcs
   subst ea
   have HCL2 := HCL.out
   go_region_law (refine step_copy_at rfl (.tmp 22) (.tmp 24) 22 22 rfl 5 Try.underlying22 (by kernel_rfl) g (p.f0 * 64).toNat _ _ aq _ _ (by first | rfl | (simp [Act.eval, Act.put]; done)) (by first | rfl | (simp [Act.eval, Act.put]; done)) ((syF l0 l1 i).map (Value.int .u8) ++ tail) 5 N_HG.out (p.f1.map (Value.int .u8)) ?hn ?hsrc ?hfit ?h1 ?_; (case hn => (rw [List.length_map, HM.out.2.2]; show 64 = min 64 _; omega)); (case hsrc => exact HCS.out); (case hfit => (have := HM.out.2.2; simp; omega)); (case h1 => (simp [Value.oneCell'])); intro w4 hw4; have HW4 := Aside0.mk hw4; clear hw4)
   all_goals go_wp2_with fail
   all_goals
    go_roundg (l1.length - (i + 1))
    case measure => have := HI.out; omega
    case rel =>
     rw [HW4.out, ovr_cells _ _ _ _ (by have := HM.out.2.2; omega), ← HCR.out]
     exact ⟨i + 1, by first | rfl | simp, ⟨by omega, rfl⟩, ⟨setRow_heap _ _ _ _ _ _ N_HG.out⟩, ⟨(setRow_other _ _ _ _ (Ne.symm hgb)).trans N_K5.out⟩, ⟨Kd.S_step (Kd.S_drew N_HS.out) (fun k hk _ => setRow_other _ _ _ _ (fun he => hk (by rw [he]; rfl)))⟩, ⟨below_row N_HB.out.drew HLG.out _⟩⟩
  ·have hi : i = l1.length := by have := HI.out; omega
   subst hi
   obtain ⟨z0, z1, z2, z3, y0, y1, y2, y3⟩ := blk_cells4 K5.out
   have yl := blk_lt K5.out
   go_wp2_with fail
   go_end0
   have hcl := syF_len l0 l1 HP.out.2.2.2.2.2.2 l1.length (Nat.le_refl _)
   have hR := R_of_row (base := lo) (ok := fun k => k ≠ b) (cap := c) HG.out HLG.out hgb HCM.out (by rw [hcl]; exact HCC.out)
   rw [hcl] at hR
   exact ⟨rfl, some ⟨g, 0, none⟩, none, l0.length, c, 0, 0, blk_put K5.out 1 _ rfl, Kd.R_mono (Kd.R_far (p := ⟨b, 1, none⟩) hR (fun k hk => hk) _) (fun _ _ => trivial), Kd.S_nil _ _ _ _ _, HBr.out.setCell hlo _⟩

/-! ### impl_Disk_write: a text by hand -/
-- import Derived.Deep.RegionLaw

/-! ### L_still: a text by hand -/
-- import Derived.StillTailTactics

/-! ### impl_Disk_write2: a text by hand -/

/-! ### impl_DiskWrite: function 82, proved by hand -/
def dWrite (l0 : List Int) (l1 : List S79) (a2 : Int) (a3 : Bool) (s : Int) (xs : List Int) : List Int × List S79 × Int × Bool :=
 if vD l0 l1 a2 = true ∧ a3 = false ∧ inD l0 s = true ∧ xs.length = 64 ∧ l1.length ≠ 2000 then (if a2 = 0 then (l0, l1, 0, true) else (l0, l1 ++ [⟨s, xs⟩], fuelD a2, a3)) else (l0, l1, a2, a3)
def m_DiskWrite.f (l0 : List Int) (l1 : List S79) (a2 : Int) (a3 : Bool) (s : Int) (xs : List Int) : Option (List Int × List S79 × Int × Bool) :=
 if l0.length ≤ 1048576 ∧ l1.length ≤ 1048576 ∧ l1.all (fun x => decide (x.f1.length ≤ 1048576)) = true then some (dWrite l0 l1 a2 a3 s xs) else none

/-! ### impl_DiskSync: function 18, proved by hand -/
def dSync (l0 : List Int) (l1 : List S79) (a2 : Int) (a3 : Bool) : List Int × List S79 × Int × Bool :=
 if (vD l0 l1 a2 && !a3) = true then (if a2 = 0 then (l0, l1, 0, true) else (syF l0 l1 l1.length, [], fuelD a2, a3)) else (l0, l1, a2, a3)
def m_DiskSync.f (l0 : List Int) (l1 : List S79) (a2 : Int) (a3 : Bool) : Option (List Int × List S79 × Int × Bool) :=
 if l0.length ≤ 1048576 ∧ l1.length ≤ 1048576 ∧ l1.all (fun x => decide (x.f1.length ≤ 1048576)) = true then some (dSync l0 l1 a2 a3) else none
set_option maxHeartbeats 4000000 in
set_option maxRecDepth 100000 in
theorem impl_DiskSync.calls (A0 : Option Addr) (c0 : Nat) (l0 : List Int) (A1 : Option Addr) (c1 : Nat) (l1 : List S79) (a2 : Int) (a3 : Bool) (r1 : List Int) (r2 : List S79) (r3 : Int) (r4 : Bool) (w : World) (hr0 : Kd.C (Kd.int .u8) w A0 l0.length l0) (hc0 : l0.length ≤ c0) (hr1 : Kd.C k79 w A1 l1.length l1) (hc1 : l1.length ≤ c1) (h : m_DiskSync.f l0 l1 a2 a3 = some (r1, r2, r3, r4)) :
   Calls Try.prog 18 #[.agg #[.slice A0 l0.length c0, .slice A1 l1.length c1, .int .i64 a2, .bool a3]] w fun e w' => ∃ v0_ v1_ : Value, e = .returned (.agg #[v0_, v1_, .int .i64 r3, .bool r4]) ∧ Kd.R (Kd.int .u8) 5 w' w.heap.size (fun _ => True) v0_ r1 ∧ Kd.S k79 79 w' w.heap.size (fun k_ => some k_ ≠ (v0_ : Value).ownBlock) v1_ r2 ∧ Below w.heap.size w w' := by
 unfold m_DiskSync.f at h
 by_cases hL : l0.length ≤ 1048576 ∧ l1.length ≤ 1048576 ∧ l1.all (fun x => decide (x.f1.length ≤ 1048576)) = true
 case neg => rw [if_neg hL] at h; cases h
 rw [if_pos hL] at h
 have hok : okPendS l1 := ⟨hL.2.1, fun x hx => by have := List.all_eq_true.1 hL.2.2 x hx; simpa using this⟩
 obtain ⟨kv, hv⟩ := (implValid_ev l0 l1 a2 a3 hL.1 hL.2.1).rounds
 have HL := Aside0.mk hL.1
 have HOK := Aside0.mk hok
 have HV := Aside0.mk hv
 have HR0 := Aside0.mk hr0
 have HC0 := Aside0.mk hc0
 have HR1 := Aside0.mk hr1
 have HC1 := Aside0.mk hc1
 clear hr0 hc0 hr1 hc1 hv hL hok
 have HRr := Aside0.mk (Option.some.inj h)
 clear h
 have hu25 := Try.underlying25
 have HB := Aside0.mk (Below.refl w.heap.size w)
 go_enter Try.func18, Try.ntmps18
 go_wp2_with fail
 refine (impl_ValidDisk.calls kv _ _ l0 _ _ l1 a2 a3 _ _ (Kd.C_alloc (Kd.C_alloc HR0.out _) _) HC0.out (Kd.C_alloc (Kd.C_alloc HR1.out _) _) HC1.out HV.out).mono ?_
 rintro e w1 ⟨rfl, gb⟩
 have K2 := Aside0.mk (show w1.heap[w.heap.size]? = some (.cells #[.slice A0 l0.length c0, .slice A1 l1.length c1, .int .i64 a2, .bool a3] 25 (0, 0)) from blk_below (blk_alloc (blk_new _ _) _) gb)
 have K4 := Aside0.mk (show w1.heap[w.heap.size + 1]? = some (.cells #[.slice none 0 0, .slice none 0 0, .int .i64 0, .bool false] 25 (0, 0)) from blk_two gb)
 have N_HB := Aside0.mk (below_step (below_alloc (below_alloc HB.out _) _) gb)
 clear HB gb
 have HB := N_HB
 clear N_HB
 obtain ⟨z0, z1, z2, z3, y0, y1, y2, y3⟩ := blk_cells4 K2.out
 have yl := blk_lt K2.out
 have KL := Aside0.mk (blk_lt K4.out)
 have fin : ∀ (v0 v1 : Value) (A B : Option Addr) (n c m d : Nat) (w2 : World), v0 = .slice A n c → v1 = .slice B m d → Kd.R (Kd.int .u8) 5 w2 w1.heap.size (fun _ => True) v0 r1 → Kd.S k79 79 w2 w1.heap.size (fun k_ => some k_ ≠ (v0 : Value).ownBlock) v1 r2 → Below w1.heap.size w1 w2 →
    w2.heap[w.heap.size + 1]? = some (.cells #[.slice none 0 0, .slice none 0 0, .int .i64 0, .bool false] 25 (0, 0)) ∧
    (((((w2.setCell ⟨w.heap.size + 1, 0, none⟩ v0).setCell ⟨w.heap.size + 1, 1, none⟩ v1).setCell ⟨w.heap.size + 1, 2, none⟩ (.int .i64 r3)).setCell ⟨w.heap.size + 1, 3, none⟩ (.bool r4)).heap[w.heap.size + 1]? = some (.cells #[v0, v1, .int .i64 r3, .bool r4] 25 (0, 0))) ∧
    Kd.R (Kd.int .u8) 5 ((((w2.setCell ⟨w.heap.size + 1, 0, none⟩ v0).setCell ⟨w.heap.size + 1, 1, none⟩ v1).setCell ⟨w.heap.size + 1, 2, none⟩ (.int .i64 r3)).setCell ⟨w.heap.size + 1, 3, none⟩ (.bool r4)) w.heap.size (fun _ => True) v0 r1 ∧
    Kd.S k79 79 ((((w2.setCell ⟨w.heap.size + 1, 0, none⟩ v0).setCell ⟨w.heap.size + 1, 1, none⟩ v1).setCell ⟨w.heap.size + 1, 2, none⟩ (.int .i64 r3)).setCell ⟨w.heap.size + 1, 3, none⟩ (.bool r4)) w.heap.size (fun k_ => some k_ ≠ (v0 : Value).ownBlock) v1 r2 ∧
    Below w.heap.size w ((((w2.setCell ⟨w.heap.size + 1, 0, none⟩ v0).setCell ⟨w.heap.size + 1, 1, none⟩ v1).setCell ⟨w.heap.size + 1, 2, none⟩ (.int .i64 r3)).setCell ⟨w.heap.size + 1, 3, none⟩ (.bool r4)) := by
   intro v0 v1 A B n c m d w2 _ _ hR hS hb
   have hle : w.heap.size + 1 < w1.heap.size := KL.out
   refine ⟨blk_below K4.out hb, blk_set4 (blk_below K4.out hb), ?_, ?_, ?_⟩
   ·exact Kd.R_lower (R_farB (R_farB (R_farB (R_farB hR (by omega) _ _) (by omega) _ _) (by omega) _ _) (by omega) _ _) (by omega)
   ·exact Kd.S_lower (S_farB (S_farB (S_farB (S_farB hS (by omega) _ _) (by omega) _ _) (by omega) _ _) (by omega) _ _) (by omega)
   ·exact below_setB (below_setB (below_setB (below_setB (below_step HB.out hb) (by omega) _ _) (by omega) _ _) (by omega) _ _) (by omega) _ _
 have FIN := Aside0.mk fin
 clear fin
 have clone : (r1, r2, r3, r4) = (l0, l1, a2, a3) → Calls Try.prog 56 #[.agg #[.slice A0 l0.length c0, .slice A1 l1.length c1, .int .i64 a2, .bool a3]] w1 fun e w' => ∃ v0_ v1_ : Value, e = .returned (.agg #[v0_, v1_, .int .i64 r3, .bool r4]) ∧ Kd.R (Kd.int .u8) 5 w' w1.heap.size (fun _ => True) v0_ r1 ∧ Kd.S k79 79 w' w1.heap.size (fun k_ => some k_ ≠ (v0_ : Value).ownBlock) v1_ r2 ∧ Below w1.heap.size w1 w' := by
   intro he
   simp only [Prod.mk.injEq] at he
   obtain ⟨rfl, rfl, rfl, rfl⟩ := he
   exact impl_Disk_clone.calls _ _ _ _ _ _ _ _ _ (Kd.C_below HR0.out HB.out) HC0.out (Kd.C_below HR1.out HB.out) HC1.out HL.out HOK.out
 have CL := Aside0.mk clone
 clear clone
 by_cases cv : vD l0 l1 a2 = true
 case neg =>
   have cv' : vD l0 l1 a2 = false := by simpa using cv
   rw [cv']
   have er := HRr.out
   unfold dSync at er
   rw [cv', Bool.false_and, if_neg (by decide)] at er
   go_wp2_with fail
   refine (CL.out er.symm).mono ?_
   rintro e w2 ⟨v0, v1, rfl, hR, hS, gb⟩
   obtain ⟨A, c, ea⟩ := Kd.R_slice hR
   obtain ⟨B, d, eb⟩ := Kd.S_slice hS
   obtain ⟨f1, f2, f3, f4, f5⟩ := FIN.out v0 v1 A B _ c _ d w2 ea eb hR hS gb
   have F2 := Aside0.mk f2
   have F3 := Aside0.mk f3
   have F4 := Aside0.mk f4
   have F5 := Aside0.mk f5
   obtain ⟨x0, x1, x2, x3, u0, u1, u2, u3⟩ := blk_cells4 f1
   have ul := blk_lt f1
   clear f1 f2 f3 f4 f5 hR hS gb
   generalize r1.length = n1 at ea
   generalize r2.length = n2 at eb
   subst ea
   subst eb
   go_wp2_with fail
   exact bodyPost_ret (results_cell_row rfl _ _ (w.heap.size + 1) 25 _ (0, 0) _ rfl F2.out Try.underlying25 rfl (by kernel_rfl)) rfl ⟨_, _, rfl, F3.out, F4.out, F5.out⟩
 have CV := Aside0.mk cv
 rw [cv]
 clear cv
 cases a3 with
 | true =>
   have er := HRr.out
   unfold dSync at er
   rw [Bool.not_true, Bool.and_false, if_neg (by decide)] at er
   go_wp2_with fail
   refine (CL.out er.symm).mono ?_
   rintro e w2 ⟨v0, v1, rfl, hR, hS, gb⟩
   obtain ⟨A, c, ea⟩ := Kd.R_slice hR
   obtain ⟨B, d, eb⟩ := Kd.S_slice hS
   obtain ⟨f1, f2, f3, f4, f5⟩ := FIN.out v0 v1 A B _ c _ d w2 ea eb hR hS gb
   have F2 := Aside0.mk f2
   have F3 := Aside0.mk f3
   have F4 := Aside0.mk f4
   have F5 := Aside0.mk f5
   obtain ⟨x0, x1, x2, x3, u0, u1, u2, u3⟩ := blk_cells4 f1
   have ul := blk_lt f1
   clear f1 f2 f3 f4 f5 hR hS gb
   generalize r1.length = n1 at ea
   generalize r2.length = n2 at eb
   subst ea
   subst eb
   go_wp2_with fail
   exact bodyPost_ret (results_cell_row rfl _ _ (w.heap.size + 1) 25 _ (0, 0) _ rfl F2.out Try.underlying25 rfl (by kernel_rfl)) rfl ⟨_, _, rfl, F3.out, F4.out, F5.out⟩
 | false =>
   have er := HRr.out
   unfold dSync at er
   rw [CV.out, Bool.not_false, Bool.and_true, if_pos rfl] at er
   have ER := Aside0.mk er
   clear er
   go_wp2_with fail
   have pw : Calls Try.prog 57 #[.agg #[.slice A0 l0.length c0, .slice A1 l1.length c1, .int .i64 a2, .bool false], .func (.func 58) #[] #[]] w1 fun e w' => ∃ v0_ v1_ : Value, e = .returned (.agg #[v0_, v1_, .int .i64 r3, .bool r4]) ∧ Kd.R (Kd.int .u8) 5 w' w1.heap.size (fun _ => True) v0_ r1 ∧ Kd.S k79 79 w' w1.heap.size (fun k_ => some k_ ≠ (v0_ : Value).ownBlock) v1_ r2 ∧ Below w1.heap.size w1 w' := by
    have hcf : ∀ (args : Array Value) (W : World), (callFunc 58 args).run Try.prog W = .ok (.enter 58 args) W := fun args W => by simp [go_sem]
    have er := ER.out
    by_cases c0_ : a2 = 0
    · rw [if_pos c0_] at er
      simp only [Prod.mk.injEq] at er
      obtain ⟨rfl, rfl, rfl, rfl⟩ := er
      subst c0_
      exact impl_Disk_powered.calls 58 #[] hcf _ _ _ _ _ _ _ _ _ (Kd.C_below HR0.out HB.out) HC0.out (Kd.C_below HR1.out HB.out) HC1.out HL.out HOK.out true _ _ 0 false (fun lo b W _ _ _ hX => (sync_dies lo b W _ _ _ hX).mono (fun e W' hh => ⟨by rw [if_pos rfl]; exact hh.1, hh.2⟩))
    · rw [if_neg c0_] at er
      simp only [Prod.mk.injEq] at er
      obtain ⟨rfl, rfl, rfl, rfl⟩ := er
      exact impl_Disk_powered.calls 58 #[] hcf _ _ _ _ _ _ _ _ _ (Kd.C_below HR0.out HB.out) HC0.out (Kd.C_below HR1.out HB.out) HC1.out HL.out HOK.out false _ _ (fuelD a2) false (fun lo b W _ hlo _ hX => (sync_lives lo b W _ _ _ _ CV.out c0_ hlo hX).mono (fun e W' hh => ⟨by rw [if_neg (by decide)]; exact hh.1, hh.2⟩))
   refine pw.mono ?_
   clear pw
   rintro e w2 ⟨v0, v1, rfl, hR, hS, gb⟩
   obtain ⟨A, c, ea⟩ := Kd.R_slice hR
   obtain ⟨B, d, eb⟩ := Kd.S_slice hS
   obtain ⟨f1, f2, f3, f4, f5⟩ := FIN.out v0 v1 A B _ c _ d w2 ea eb hR hS gb
   have F2 := Aside0.mk f2
   have F3 := Aside0.mk f3
   have F4 := Aside0.mk f4
   have F5 := Aside0.mk f5
   obtain ⟨x0, x1, x2, x3, u0, u1, u2, u3⟩ := blk_cells4 f1
   have ul := blk_lt f1
   clear f1 f2 f3 f4 f5 hR hS gb
   generalize r1.length = n1 at ea
   generalize r2.length = n2 at eb
   subst ea
   subst eb
   go_wp2_with fail
   exact bodyPost_ret (results_cell_row rfl _ _ (w.heap.size + 1) 25 _ (0, 0) _ rfl F2.out Try.underlying25 rfl (by kernel_rfl)) rfl ⟨_, _, rfl, F3.out, F4.out, F5.out⟩

/-! ### spec_RecSectors: function 46 -/
def spec_RecSectors.j0 : Nat → Int → Bool → Option (Int)
 | 0, _, _ => none
 | k + 1, x0, x8 => if x8 = true then (some 0) else (if x0 = 0 then (some 1) else (some (wrap64 (Int.tdiv (wrap64 ((wrap64 (x0 + 48)) - 1)) 48))))
def spec_RecSectors.f (k : Nat) (a0 : Int) : Option (Int) := if a0 < 0 then (spec_RecSectors.j0 k a0 true) else (spec_RecSectors.j0 k a0 (decide (a0 > 30000)))

/-! ### spec_l2Sectors: function 69 -/
mutual
def spec_l2Sectors.l0 : Nat → Int → List Int → Int → List (List Int) → Int → Option ((List (List Int)))
 | 0, _, _, _, _, _ => none
 | k + 1, x0, x1, x5, x6, x7 => if x7 < x5 then (if 0 ≤ (wrap64 (x7 * 48)) then (if (wrap64 (x7 * 48)) ≤ (x1.length : Int) then ((some (x1.drop ((wrap64 (x7 * 48)) : Int).toNat : List Int)).bind fun y594 => (if (y594.length : Int) > 48 then (if 48 ≤ (y594.length : Int) then (spec_l2Sectors.j1 k x0 x1 x5 x6 x7 (y594.take 48)) else (none)) else (spec_l2Sectors.j1 k x0 x1 x5 x6 x7 y594))) else (none)) else (none)) else (some x6)
def spec_l2Sectors.j1 : Nat → Int → List Int → Int → List (List Int) → Int → List Int → Option ((List (List Int)))
 | 0, _, _, _, _, _, _ => none
 | k + 1, x0, x1, x5, x6, x7, x8 => (spec_l2Put.f k x0 4).bind fun t604 => ((spec_l2Put.f k x7 2).bind fun t607 => ((spec_l2Put.f k x5 2).bind fun t610 => ((spec_l2Put.f k (x8.length : Int) 2).bind fun t613 => ((spec_l2Cat.f k (([t604, t607, t610, t613, (([82, 49] : List Int))] : List (List Int)))).bind fun t622 => ((spec_l1Zeros.f k (wrap64 (48 - (x8.length : Int)))).bind fun t625 => ((spec_l2Cat.f k (([t622, x8, t625] : List (List Int)))).bind fun t631 => ((spec_l2Seal.f k t631).bind fun t634 => (if x6.length < 5864062014805 then (spec_l2Sectors.l0 k x0 x1 x5 (x6 ++ [t634]) (wrap64 (x7 + 1))) else (none)))))))))
end
def spec_l2Sectors.f (k : Nat) (a0 : Int) (l1 : List Int) : Option ((List (List Int))) := (spec_RecSectors.f k (l1.length : Int)).bind fun t590 => (spec_l2Sectors.l0 k a0 l1 t590 (([] : List (List Int))) 0)

/-! ### yL_gN: a text by hand -/
def gN (x : Int) : Bool := decide (1 ≤ x) && decide (x ≤ 2000000000)

/-! ### yimpl_piece: a text by hand -/
-- import Derived.StillTailTactics
-- import Derived.Laws.CopyOwn
-- import Derived.Laws.CopyRow
-- import Derived.Laws.IdiomCopy
-- import Derived.Lib.BufferWrite
def cp12 (x part : List Int) : List Int := x.take 12 ++ part ++ x.drop (12 + part.length)
def pHead (seq i k n : Int) : Option (List Int) := (impl_put.f 5 (List.replicate 64 0) 0 4 seq).bind fun x1 => (impl_put.f 5 x1 4 2 i).bind fun x2 => (impl_put.f 5 x2 6 2 k).bind fun x3 => impl_put.f 5 x3 8 2 n
def cPiece (kc : Nat) (seq i k : Int) (part : List Int) : Option (List Int) := (pHead seq i k part.length).bind fun x => (spec_Crc32.f kc ((cp12 ((x.set 10 82).set 11 49) part).take 60)).bind fun cr => impl_put.f 5 (cp12 ((x.set 10 82).set 11 49) part) 60 4 cr

/-! ### zL_rec: a text by hand -/
def put2 (x : Int) : List Int := [x % 256, x / 256 % 256]
/-- The first 60 bytes of a sector of a record. -/
def sec0 (seq i k : Int) (part : List Int) : List Int := put4 seq ++ put2 i ++ put2 k ++ put2 part.length ++ [82, 49] ++ part ++ List.replicate (48 - part.length) 0

/-! ### zL_rec2: a text by hand -/
/-- The sum of 60 bytes, as a function. -/
def CrcOk (cr : List Int → Int) : Prop := ∀ l : List Int, l.length = 60 → Ev (fun k => spec_Crc32.f k l) (cr l) ∧ 0 ≤ cr l ∧ cr l < 4294967296
theorem crc_total : ∃ cr : List Int → Int, CrcOk cr := by
 have h : ∀ l : List Int, ∃ c, l.length = 60 → Ev (fun k => spec_Crc32.f k l) c ∧ 0 ≤ c ∧ c < 4294967296 := fun l => by
  by_cases hl : l.length = 60
  ·obtain ⟨c, hc⟩ := crc_ev l (by omega)
   obtain ⟨k, hk⟩ := hc.rounds
   exact ⟨c, fun _ => ⟨hc, crc_bd k l c (by omega) hk⟩⟩
  ·exact ⟨0, fun h => absurd h hl⟩
 exact ⟨fun l => Classical.choose (h l), fun l hl => Classical.choose_spec (h l) hl⟩
/-- The sum of 60 bytes, one for all. -/
noncomputable def crcF : List Int → Int := Classical.choose crc_total
def pcOf (cr : List Int → Int) (seq i k : Int) (part : List Int) : List Int := sec0 seq i k part ++ put4 (cr (sec0 seq i k part))
/-- How many sectors a payload takes. -/
def recK (n : Nat) : Nat := if n = 0 then 1 else (n + 47) / 48
def pieceOf (P : List Int) (i : Nat) : List Int := (P.drop (48 * i)).take 48
def secsOf (cr : List Int → Int) (seq : Int) (P : List Int) : List (List Int) := (List.range (recK P.length)).map fun (i : Nat) => pcOf cr seq i (recK P.length) (pieceOf P i)

/-! ### L_overEq: a text by hand -/
theorem over_eq (l : List Int) (s : Int) (d : List Int) (h0 : 0 ≤ s) (h1 : s * 64 + d.length ≤ l.length) (h2 : l.length ≤ 65599) : spec_l1Over.f l s d = some (ovr l s d) := by
 have e1 : wrap64 (s * 64) = s * 64 := by unfold wrap64; omega
 have e2 : wrap64 (s * 64 + (d.length : Int)) = s * 64 + d.length := by unfold wrap64; omega
 unfold spec_l1Over.f
 simp only [Option.bind_some, List.nil_append, List.length_nil, Nat.zero_add, e1, e2]
 rw [if_pos (by omega), if_pos (by omega), if_pos (by rw [List.length_take]; omega), if_pos (by rw [List.length_take]; omega), if_pos (by omega), if_pos (by omega), if_pos (by simp; omega)]
 unfold ovr
 rw [List.append_assoc, show (s * 64 + (d.length : Int)).toNat = (s * 64).toNat + d.length by omega]

/-! ### L_specSync: a text by hand -/
theorem specCopy_loop (l0 : List Int) (l1 : List S79) (a2 : Int) (a3 : Bool) (hok : okPendS l1) : ∀ (d i : Nat), i + d = l1.length → Ev (fun k => spec_l1Copy.l0 k (i : Int) l0 l1 a2 a3 l0 (l1.take i) a2 a3) (l0, l1, a2, a3) := by
 intro d
 induction d with
 | zero =>
   intro i hi
   rw [List.take_of_length_le (by omega)]
   exact Ev.step (fun K => by simp only [spec_l1Copy.l0]; rw [if_neg (by omega)]) (Ev.now _)
 | succ d ih =>
   intro i hi
   have ih' := ih (i + 1) (by omega)
   have h1 := hok.1
   have hx := hok.2 _ (rdP_mem l1 i (by omega))
   have ew : wrap64 ((i : Int) + 1) = ((i + 1 : Nat) : Int) := by unfold wrap64; omega
   have hp : l1.take (i + 1) = l1.take i ++ [rd_T79 l1 (i : Int)] := by
    unfold rd_T79
    rw [List.take_succ_eq_append_getElem (by omega), Int.toNat_natCast, List.getD_eq_getElem?_getD, List.getElem?_eq_getElem (by omega)]
    rfl
   rw [hp] at ih'
   exact Ev.step (fun K => by
    simp only [spec_l1Copy.l0]
    rw [if_pos (by omega), if_pos (by omega), Option.bind_some, if_pos (by simp; omega), if_pos (by rw [List.length_take]; omega), ew, List.nil_append]) ih'
theorem specCopy_ev (l0 : List Int) (l1 : List S79) (a2 : Int) (a3 : Bool) (h0 : l0.length ≤ 1048576) (hok : okPendS l1) : Ev (fun k => spec_l1Copy.f k l0 l1 a2 a3) (l0, l1, a2, a3) := by
 unfold spec_l1Copy.f
 exact Ev.congr (fun K => by rw [Option.bind_some, if_pos (by rw [List.length_nil]; omega), List.nil_append]; rfl) (specCopy_loop l0 l1 a2 a3 hok l1.length 0 (by omega))
theorem specStep_ev (l0 : List Int) (l1 : List S79) (a2 : Int) (a3 : Bool) (h0 : l0.length ≤ 1048576) (hok : okPendS l1) (hf : -1 ≤ a2) (hf2 : a2 ≤ 1000000) : Ev (fun k => spec_l1Step.f k l0 l1 a2 a3) (if a2 = 0 then (l0, l1, 0, true) else (l0, l1, fuelD a2, a3)) := by
 unfold spec_l1Step.f
 refine Ev.bind (specCopy_ev l0 l1 a2 a3 h0 hok) ?_
 by_cases c : a2 = 0
 ·subst c
  exact Ev.congr (fun K => by rw [if_pos rfl, if_pos rfl]) (Ev.now _)
 ·rw [if_neg c]
  unfold fuelD
  by_cases c2 : a2 > 0
  ·rw [if_pos (show 0 < a2 from c2)]
   exact Ev.congr (fun K => by rw [if_neg c, if_pos c2, show wrap64 (a2 - 1) = a2 - 1 by unfold wrap64; omega]) (Ev.now _)
  ·rw [if_neg (show ¬ 0 < a2 from c2)]
   exact Ev.congr (fun K => by rw [if_neg c, if_neg c2]) (Ev.now _)
theorem specSync_loop (l0 : List Int) (l1 : List S79) (a2 : Int) (a3 : Bool) (x1 : List S79) (f : Int) (h2 : l0.length ≤ 65599) (h3 : l1.length ≤ 2000) (h : ∀ x ∈ l1, 0 ≤ x.f0 ∧ x.f0 < ((l0.length / 64 : Nat) : Int) ∧ x.f1.length = 64) :
   ∀ (d i : Nat), i + d = l1.length → Ev (fun k => spec_DiskSync.l0 k (i : Int) l0 l1 a2 a3 (syF l0 l1 i) x1 f a3) (syF l0 l1 l1.length, ([] : List S79), f, a3) := by
 intro d
 induction d with
 | zero => intro i hi; obtain rfl : i = l1.length := by omega
           exact Ev.step (fun K => by simp only [spec_DiskSync.l0]; rw [if_neg (by omega)]) (Ev.now _)
 | succ d ih =>
   intro i hi
   have ih' := ih (i + 1) (by omega)
   have hx := h _ (rdP_mem l1 i (by omega))
   have hl := syF_len l0 l1 h i (by omega)
   have ew : wrap64 ((i : Int) + 1) = ((i + 1 : Nat) : Int) := by unfold wrap64; omega
   have hn : syF l0 l1 (i + 1) = ovr (syF l0 l1 i) (rd_T79 l1 (i : Int)).f0 (rd_T79 l1 (i : Int)).f1 := rfl
   rw [hn] at ih'
   have ho := over_eq (syF l0 l1 i) (rd_T79 l1 (i : Int)).f0 (rd_T79 l1 (i : Int)).f1 hx.1 (by rw [hl, hx.2.2]; omega) (by omega)
   exact Ev.step (fun K => by simp only [spec_DiskSync.l0]; rw [if_pos (by omega), if_pos (by omega), ho, Option.bind_some, ew]) ih'
theorem specSync_ev (l0 : List Int) (l1 : List S79) (a2 : Int) (a3 : Bool) (h0 : l0.length ≤ 1048576) (hok : okPendS l1) : Ev (fun k => spec_DiskSync.f k l0 l1 a2 a3) (dSync l0 l1 a2 a3) := by
 have hj : Ev (fun k => spec_DiskSync.j0 k true l0 l1 a2 a3) (l0, l1, a2, a3) := Ev.step (fun K => by simp only [spec_DiskSync.j0]; rw [if_true]) (Ev.bind (specCopy_ev l0 l1 a2 a3 h0 hok) (Ev.now _))
 unfold spec_DiskSync.f dSync
 refine Ev.bind (specValid_ev l0 l1 a2 a3 h0 hok.1) ?_
 by_cases cv : vD l0 l1 a2 = true
 case neg =>
   have cv' : vD l0 l1 a2 = false := by simpa using cv
   rw [cv', Bool.false_and, if_neg (by decide)]
   exact Ev.congr (fun K => by rw [if_neg (by decide)]) hj
 obtain ⟨f1, f2, f3, f4, f5, f6, f7⟩ := vD_facts cv
 rw [cv, Bool.true_and]
 refine Ev.congr (fun K => by rw [if_pos rfl]) ?_
 cases a3 with
 | true => exact hj
 | false =>
   rw [Bool.not_false, if_pos rfl]
   have hs := specStep_ev l0 l1 a2 false h0 hok f5 f6
   refine Ev.step (fun K => by simp only [spec_DiskSync.j0]; rw [if_neg (by decide)]) (Ev.bind hs ?_)
   by_cases c : a2 = 0
   ·rw [if_pos c, if_pos c]
    exact Ev.congr (fun K => by rw [if_pos rfl]) (Ev.now _)
   ·rw [if_neg c, if_neg c]
    exact Ev.congr (fun K => by rw [if_neg (by simp)]; rfl) (specSync_loop l0 l1 a2 false l1 (fuelD a2) f3 f4 f7 l1.length 0 (by omega))

/-! ### L_specWrite: a text by hand -/
theorem specWrite_ev (l0 : List Int) (l1 : List S79) (a2 : Int) (a3 : Bool) (s : Int) (xs : List Int) (h0 : l0.length ≤ 1048576) (hok : okPendS l1) (hx : xs.length ≤ 1048576) : Ev (fun k => spec_DiskWrite.f k l0 l1 a2 a3 s xs) (dWrite l0 l1 a2 a3 s xs) := by
 have hj : Ev (fun k => spec_DiskWrite.j0 k s xs true l0 l1 a2 a3) (l0, l1, a2, a3) := Ev.step (fun K => by simp only [spec_DiskWrite.j0]; rw [if_true]) (Ev.bind (specCopy_ev l0 l1 a2 a3 h0 hok) (Ev.now _))
 unfold spec_DiskWrite.f dWrite
 refine Ev.bind (specValid_ev l0 l1 a2 a3 h0 hok.1) ?_
 by_cases cv : vD l0 l1 a2 = true
 case neg =>
   rw [if_neg (fun h => cv h.1)]
   exact Ev.congr (fun K => by rw [if_neg cv]) hj
 obtain ⟨f1, f2, f3, f4, f5, f6, f7⟩ := vD_facts cv
 refine Ev.congr (fun K => by rw [if_pos cv]) ?_
 cases a3 with
 | true =>
   rw [if_neg (fun h => by cases h.2.1)]
   exact hj
 | false =>
 refine Ev.congr (fun K => by rw [if_neg (by decide)]) ?_
 by_cases c : s < 0
 · rw [if_neg (fun h => by have := h.2.2.1; unfold inD at this; simp at this; omega)]
   exact Ev.congr (fun K => by rw [if_pos c]) hj
 have hsec : spec_l1Sectors.f l0 l1 a2 false = some ((l0.length / 64 : Nat) : Int) := by unfold spec_l1Sectors.f; rw [sectors_at l0 h0]
 refine Ev.congr (fun K => by rw [if_neg c, hsec, Option.bind_some]) ?_
 by_cases c2 : s ≥ ((l0.length / 64 : Nat) : Int)
 · rw [if_neg (fun h => by have := h.2.2.1; unfold inD at this; simp at this; omega)]
   exact Ev.congr (fun K => by rw [if_pos c2]) hj
 refine Ev.congr (fun K => by rw [if_neg c2]) ?_
 have hin : inD l0 s = true := by unfold inD; rw [decide_eq_true (show 0 ≤ s by omega), decide_eq_true (show s < _ by omega)]; rfl
 by_cases c3 : xs.length = 64
 case neg =>
   rw [if_neg (fun h => c3 h.2.2.2.1)]
   exact Ev.congr (fun K => by rw [if_neg (by omega)]) hj
 refine Ev.congr (fun K => by rw [if_pos (by omega)]) ?_
 by_cases c4 : l1.length = 2000
 · rw [if_neg (fun h => h.2.2.2.2 c4)]
   exact Ev.congr (fun K => by rw [show ((l1.length : Int) == 2000) = true by simpa using (by omega : (l1.length : Int) = 2000)]) hj
 rw [if_pos ⟨cv, rfl, hin, c3, c4⟩]
 refine Ev.congr (fun K => by rw [show ((l1.length : Int) == 2000) = false by simpa using (by omega : ¬ (l1.length : Int) = 2000)]) ?_
 have hs := specStep_ev l0 l1 a2 false h0 hok f5 f6
 refine Ev.step (fun K => by simp only [spec_DiskWrite.j0]; rw [if_neg (by decide)]) (Ev.bind hs ?_)
 by_cases c5 : a2 = 0
 · rw [if_pos c5, if_pos c5]
   exact Ev.congr (fun K => by rw [if_pos rfl]) (Ev.now _)
 · rw [if_neg c5, if_neg c5]
   exact Ev.congr (fun K => by rw [if_neg (by simp), Option.bind_some, if_pos (by simp; omega), if_pos (by simp; omega), List.nil_append]) (Ev.now _)

/-! ### zL_wdisk: a text by hand -/
/-- A disk's four fields, and the two steps of a device upon them. -/
def dkW (q : List Int × List S79 × Int × Bool) (s : Int) (xs : List Int) : List Int × List S79 × Int × Bool := dWrite q.1 q.2.1 q.2.2.1 q.2.2.2 s xs
def dkS (q : List Int × List S79 × Int × Bool) : List Int × List S79 × Int × Bool := dSync q.1 q.2.1 q.2.2.1 q.2.2.2
/-- The first n writes of a record. -/
def wrF (at_ : Int) (S : Nat → List Int) : Nat → List Int × List S79 × Int × Bool → List Int × List S79 × Int × Bool
 | 0, q => q
 | n + 1, q => dkW (wrF at_ S n q) (at_ + n) (S n)
/-- All of a record's steps. -/
def wrAll (at_ : Int) (S : Nat → List Int) (K : Nat) (q : List Int × List S79 × Int × Bool) : List Int × List S79 × Int × Bool :=
 dkS (dkW (if 1 < K then dkS (wrF at_ S (K - 1) q) else wrF at_ S (K - 1) q) (at_ + ((K - 1 : Nat) : Int)) (S (K - 1)))
noncomputable def wrS (seq : Int) (P : List Int) (i : Nat) : List Int := pcOf crcF seq i (recK P.length) (pieceOf P i)
def wrC (l0 : List Int) (l1 : List S79) (a2 at_ seq : Int) (P : List Int) : Prop := vD l0 l1 a2 = true ∧ gN seq = true ∧ P.length ≤ 30000 ∧ 2 ≤ at_ ∧ at_ + (recK P.length : Int) ≤ ((l0.length / 64 : Nat) : Int)
instance (l0 : List Int) (l1 : List S79) (a2 at_ seq : Int) (P : List Int) : Decidable (wrC l0 l1 a2 at_ seq P) := by unfold wrC; infer_instance
noncomputable def mWR (l0 : List Int) (l1 : List S79) (a2 : Int) (a3 : Bool) (at_ seq : Int) (P : List Int) : List Int × List S79 × Int × Bool :=
 if wrC l0 l1 a2 at_ seq P then wrAll at_ (wrS seq P) (recK P.length) (l0, l1, a2, a3) else (l0, l1, a2, a3)
/-- What the contracts ask of a disk. -/
def okQ (q : List Int × List S79 × Int × Bool) : Prop := q.1.length ≤ 1048576 ∧ okPendS q.2.1
noncomputable def m_WriteRec.f (_k : Nat) (l0 : List Int) (l1 : List S79) (a2 : Int) (a3 : Bool) (at_ seq : Int) (P : List Int) : Option (List Int × List S79 × Int × Bool) :=
 if l0.length ≤ 1048576 ∧ l1.length ≤ 1048576 ∧ l1.all (fun x => decide (x.f1.length ≤ 1048576)) = true ∧ P.length ≤ 1048576 then some (mWR l0 l1 a2 a3 at_ seq P) else none
/-- A disk that lies in a box g, its rows readable and apart from the box. -/
structure DB (w0 W : World) (g : Nat) (A : Option Addr) (c : Nat) (B : Option Addr) (d : Nat) (l0 : List Int) (l1 : List S79) (a2 : Int) (a3 : Bool) : Prop where
 box : W.heap[g]? = some (.cells #[.slice A l0.length c, .slice B l1.length d, .int .i64 a2, .bool a3] 25 (0, 0))
 r : Kd.V (Kd.int .u8) 5 W 0 (fun k => k ≠ g) (.slice A l0.length c) l0
 s : Kd.V k79 79 W 0 (fun k => k ≠ g) (.slice B l1.length d) l1
 le : w0.heap.size ≤ g
 b : Below w0.heap.size w0 W
theorem V_came {α : Type} {d : Kd α} (hd : Kd.Heap d) (e base : Nat) {w : World} {A : Option Addr} {xs : List α} {c g : Nat} (h : d.C w A xs.length xs) (hc : xs.length ≤ c) (hg : w.heap.size ≤ g) : Kd.V d e w base (fun k => k ≠ g) (.slice A xs.length c) xs :=
 Kd.V_mk hc (Kd.F_mono (Kd.C_F hd h) (fun k hk => by omega))
section
variable {w0 W W' : World} {g c d c' d' : Nat} {A B A' B' : Option Addr} {l0 r1 : List Int} {l1 r2 : List S79} {a2 r3 : Int} {a3 r4 : Bool}
theorem DB.below (h : DB w0 W g A c B d l0 l1 a2 a3) (hb : Below W.heap.size W W') : DB w0 W' g A c B d l0 l1 a2 a3 :=
 ⟨blk_below h.box hb, Kd.V_below h.r hb, Kd.V_below h.s hb, h.le, below_step h.b hb⟩
theorem DB.c0 (h : DB w0 W g A c B d l0 l1 a2 a3) : Kd.C (Kd.int .u8) W A l0.length l0 := (Kd.V_reads' h.r).2.2
theorem DB.n0 (h : DB w0 W g A c B d l0 l1 a2 a3) : l0.length ≤ c := (Kd.V_reads' h.r).2.1
theorem DB.c1 (h : DB w0 W g A c B d l0 l1 a2 a3) : Kd.C k79 W B l1.length l1 := (Kd.V_reads' h.s).2.2
theorem DB.n1 (h : DB w0 W g A c B d l0 l1 a2 a3) : l1.length ≤ d := (Kd.V_reads' h.s).2.1
theorem DB.new {w : World} {zz : Array Value} (hr0 : Kd.C (Kd.int .u8) w A l0.length l0) (hc0 : l0.length ≤ c) (hr1 : Kd.C k79 w B l1.length l1) (hc1 : l1.length ≤ d) :
  DB w ((w.alloc (.cells #[.slice A l0.length c, .slice B l1.length d, .int .i64 a2, .bool a3] 25)).alloc (.cells zz 25)) w.heap.size A c B d l0 l1 a2 a3 :=
 DB.below (W := w.alloc (.cells #[.slice A l0.length c, .slice B l1.length d, .int .i64 a2, .bool a3] 25)) ⟨blk_new _ _, Kd.V_alloc (V_came (Kd.heap_int .u8) _ _ hr0 hc0 (Nat.le_refl _)) _, Kd.V_alloc (V_came k79_heap _ _ hr1 hc1 (Nat.le_refl _)) _, Nat.le_refl _, below_alloc (Below.refl _ _) _⟩ (below_alloc (Below.refl _ _) _)
theorem DB.put (h : DB w0 W g A c B d l0 l1 a2 a3) (hb : Below W.heap.size W W')
  (hR : Kd.R (Kd.int .u8) 5 W' W.heap.size (fun _ => True) (.slice A' r1.length c') r1) (hS : Kd.S k79 79 W' W.heap.size (fun k_ => some k_ ≠ (.slice A' r1.length c' : Value).ownBlock) (.slice B' r2.length d') r2) :
  DB w0 ((((W'.setCell ⟨g, 0, none⟩ (.slice A' r1.length c')).setCell ⟨g, 1, none⟩ (.slice B' r2.length d')).setCell ⟨g, 2, none⟩ (.int .i64 r3)).setCell ⟨g, 3, none⟩ (.bool r4)) g A' c' B' d' r1 r2 r3 r4 := by
 have hl := h.le
 have hlt := blk_lt h.box
 have R1 : Kd.V (Kd.int .u8) 5 W' 0 (fun k => k ≠ g) (.slice A' r1.length c') r1 := Kd.R_V (Kd.R_mono (Kd.R_bound hR) (fun k hk => by have := hk.2.1; omega))
 have S1 : Kd.V k79 79 W' 0 (fun k => k ≠ g) (.slice B' r2.length d') r2 := Kd.S_V (Kd.S_mono (Kd.S_bound hS) (fun k hk => by have := hk.2.1; omega))
 have b1 := below_step h.b hb
 exact ⟨blk_set4 (blk_below h.box hb), Kd.V_far (Kd.V_far (Kd.V_far (Kd.V_far R1 (fun _ h => h) _) (fun _ h => h) _) (fun _ h => h) _) (fun _ h => h) _, Kd.V_far (Kd.V_far (Kd.V_far (Kd.V_far S1 (fun _ h => h) _) (fun _ h => h) _) (fun _ h => h) _) (fun _ h => h) _, hl,
  below_setB (below_setB (below_setB (below_setB b1 hl _ _) hl _ _) hl _ _) hl _ _⟩
end

/-! ### zL_wimpl: a text by hand -/
theorem vD_snoc {l0 : List Int} {l1 : List S79} {a2 : Int} (h : vD l0 l1 a2 = true) {s : Int} {xs : List Int} (hs : inD l0 s = true) (hx : xs.length = 64) (hl : l1.length < 2000) : vD l0 (l1 ++ [⟨s, xs⟩]) (fuelD a2) = true := by
 unfold vD at h ⊢
 unfold inD at hs
 simp only [Bool.and_eq_true, decide_eq_true_eq] at h hs ⊢
 obtain ⟨⟨⟨⟨⟨⟨h1, h2⟩, h3⟩, h4⟩, h5⟩, h6⟩, h7⟩ := h
 refine ⟨⟨⟨⟨⟨⟨h1, h2⟩, h3⟩, by rw [List.length_append]; simp; omega⟩, by unfold fuelD; split <;> omega⟩, by unfold fuelD; split <;> omega⟩, ?_⟩
 rw [List.all_append, h7]
 simp [pendOk, hx]
 omega
theorem vD_sync {l0 : List Int} {l1 : List S79} {a2 : Int} (h : vD l0 l1 a2 = true) : vD (syF l0 l1 l1.length) [] (fuelD a2) = true := by
 have hf := vD_facts h
 have hl := syF_len l0 l1 hf.2.2.2.2.2.2 _ (Nat.le_refl _)
 unfold vD at h ⊢
 simp only [Bool.and_eq_true, decide_eq_true_eq] at h ⊢
 obtain ⟨⟨⟨⟨⟨⟨h1, h2⟩, h3⟩, h4⟩, h5⟩, h6⟩, h7⟩ := h
 rw [hl]
 exact ⟨⟨⟨⟨⟨⟨h1, h2⟩, h3⟩, by simp⟩, by unfold fuelD; split <;> omega⟩, by unfold fuelD; split <;> omega⟩, by simp⟩
/-- A disk that lives: what a write and a sync make of it. -/
structure Lives (q : List Int × List S79 × Int × Bool) (n : Nat) : Prop where
 v : vD q.1 q.2.1 q.2.2.1 = true
 a : q.2.2.2 = false
 n : q.2.1.length ≤ n
theorem Lives.w0 {q : List Int × List S79 × Int × Bool} {n : Nat} (h : Lives q n) (hn : n < 2000) {s : Int} {xs : List Int} (hs : inD q.1 s = true) (hx : xs.length = 64) (hf : q.2.2.1 = 0) : dkW q s xs = (q.1, q.2.1, 0, true) := by
 have := h.n
 unfold dkW dWrite
 rw [if_pos ⟨h.v, h.a, hs, hx, by omega⟩, if_pos hf]
theorem Lives.w1 {q : List Int × List S79 × Int × Bool} {n : Nat} (h : Lives q n) (hn : n < 2000) {s : Int} {xs : List Int} (hs : inD q.1 s = true) (hx : xs.length = 64) (hf : ¬ q.2.2.1 = 0) : dkW q s xs = (q.1, q.2.1 ++ [⟨s, xs⟩], fuelD q.2.2.1, false) ∧ Lives (dkW q s xs) (n + 1) ∧ (dkW q s xs).1.length = q.1.length := by
 have := h.n
 have e : dkW q s xs = (q.1, q.2.1 ++ [⟨s, xs⟩], fuelD q.2.2.1, false) := by
  unfold dkW dWrite
  rw [if_pos ⟨h.v, h.a, hs, hx, by omega⟩, if_neg hf, h.a]
 refine ⟨e, ?_, by rw [e]⟩
 rw [e]
 exact ⟨vD_snoc h.v hs hx (by omega), rfl, by rw [List.length_append]; simp; omega⟩
theorem Lives.s0 {q : List Int × List S79 × Int × Bool} {n : Nat} (h : Lives q n) (hf : q.2.2.1 = 0) : dkS q = (q.1, q.2.1, 0, true) := by
 unfold dkS dSync
 rw [if_pos (by rw [h.v, h.a]; rfl), if_pos hf]
theorem Lives.s1 {q : List Int × List S79 × Int × Bool} {n : Nat} (h : Lives q n) (hf : ¬ q.2.2.1 = 0) : dkS q = (syF q.1 q.2.1 q.2.1.length, [], fuelD q.2.2.1, false) ∧ Lives (dkS q) 0 ∧ (dkS q).1.length = q.1.length := by
 have e : dkS q = (syF q.1 q.2.1 q.2.1.length, [], fuelD q.2.2.1, false) := by
  unfold dkS dSync
  rw [if_pos (by rw [h.v, h.a]; rfl), if_neg hf, h.a]
 refine ⟨e, ?_, by rw [e]; exact syF_len _ _ (vD_facts h.v).2.2.2.2.2.2 _ (Nat.le_refl _)⟩
 rw [e]
 exact ⟨vD_sync h.v, rfl, by simp⟩
section
variable {lo b : Nat} {W W1 W2 : World} {l0 l0' : List Int} {l1 l1' : List S79} {a2 a2' : Int} {a3 a3' : Bool}
end

/-! ### spec_DiskNew: function 120 -/
def spec_DiskNew.f (k : Nat) (a0 : Int) : Option (List Int × (List (S79)) × Int × Bool) := if a0 < 16 then (some (([] : List Int), ([] : List (S79)), 0, false)) else (if a0 > 1024 then (some (([] : List Int), ([] : List (S79)), 0, false)) else ((spec_l1Zeros.f k (wrap64 (a0 * 64))).bind fun t1144 => (some (t1144, ([] : List (S79)), (-1), false))))
set_option maxHeartbeats 8000000 in
set_option maxRecDepth 100000 in
theorem spec_DiskNew.calls (k : Nat) (a0 : Int) (r1 : List Int) (r2 : List (S79)) (r3 : Int) (r4 : Bool) (w : World) (h : spec_DiskNew.f k a0 = some (r1, r2, r3, r4)) :
  Calls Try.prog 120 #[.int .i64 a0] w fun e w' => ∃ v0_ v1_ : Value, e = .returned (.agg #[v0_, v1_, .int .i64 r3, .bool r4]) ∧ Kd.R (Kd.int .u8) 5 w' w.heap.size (fun _ => True) v0_ r1 ∧ Kd.S k79 79 w' w.heap.size (fun k_ => some k_ ≠ (v0_ : Value).ownBlock) v1_ r2 ∧ Below w.heap.size w w' := by
 have hu25 := Try.underlying25
 have HB := Aside0.mk (Below.refl w.heap.size w)
 have H : (if a0 < 16 then (some (([] : List Int), ([] : List (S79)), 0, false)) else (if a0 > 1024 then (some (([] : List Int), ([] : List (S79)), 0, false)) else ((spec_l1Zeros.f k (wrap64 (a0 * 64))).bind fun t1144 => (some (t1144, ([] : List (S79)), (-1), false))))) = some (r1, r2, r3, r4) := h
 clear h
 by_cases c2 : a0 < 16
 ·rw [if_pos c2] at H
  have c2b0 : decide (a0 < 16) = true := decide_eq_true c2
  clear c2
  simp only [Option.some.injEq, Prod.mk.injEq] at H
  obtain ⟨rfl, rfl, rfl, rfl⟩ := H
  go_enter Try.func120, Try.ntmps120
  go_wp2_with (first | ((with_reducible refine gate_dst (N := 2) rfl ?_); refine box_event ?hg (N := 2) ?hd (cs := #[.slice none 0 0, .slice none 0 0, .int .i64 0, .bool false]) (t := 25) ?hr ?_; (case hd => rfl); (case hg => rfl); (case hr => first | (go_simp; done) | (go_simp; rfl)); intro gb1143 hg w3 hbox hb; have n0_ := Aside0.mk (below_step (by repeat (first | (with_reducible first | exact HB.out | apply below_alloc | apply pw_below_drewN | apply below_drew1) | exact HB.out)) hb); have n1_ := Aside0.mk (hbox); have n2_ := Aside0.mk ((by rw [hg]; exact (below_size (by repeat (first | (with_reducible first | exact HB.out | apply below_alloc | apply pw_below_drewN | apply below_drew1) | exact HB.out))) : w.heap.size ≤ gb1143)); have n3_ := Aside0.mk ((by rw [hg]; exact (below_size (by repeat (first | (with_reducible first | exact HB.out | apply below_alloc | apply pw_below_drewN | apply below_drew1) | exact HB.out))) : w.heap.size ≤ gb1143)); clear HB; have HB := n0_; have BK1143 := n1_; have GW1143 := n2_; have GE1143 := n3_; clear n0_ n1_ n2_ n3_; clear hb hbox hg; have hcz4_0 : w3.cell? ⟨gb1143, 0, none⟩ = some (.slice none 0 0) := (blk_cell BK1143.out 0).trans rfl; have hcz4_1 : w3.cell? ⟨gb1143, 1, none⟩ = some (.slice none 0 0) := (blk_cell BK1143.out 1).trans rfl; have hcz4_2 : w3.cell? ⟨gb1143, 2, none⟩ = some (.int .i64 0) := (blk_cell BK1143.out 2).trans rfl; have hcz4_3 : w3.cell? ⟨gb1143, 3, none⟩ = some (.bool false) := (blk_cell BK1143.out 3).trans rfl; have hfz4_0 := blk_frozen BK1143.out 0; have hfz4_1 := blk_frozen BK1143.out 1; have hfz4_2 := blk_frozen BK1143.out 2; have hfz4_3 := blk_frozen BK1143.out 3))
  refine bodyPost_ret (results_cell_row rfl _ _ gb1143 25 #[.slice none 0 0, .slice none 0 0, .int .i64 0, .bool false] (0, 0) _ rfl (by (with_reducible repeat (first | refine blk_drewN ?_ _ | refine blk_drew ?_ | refine blk_alloc ?_ _)); refine blk_put (cs := #[.slice none 0 0, .slice none 0 0, .int .i64 0, .bool false]) ?_ 3 _ rfl; (with_reducible repeat (first | refine blk_drewN ?_ _ | refine blk_drew ?_ | refine blk_alloc ?_ _)); refine blk_put (cs := #[.slice none 0 0, .slice none 0 0, .int .i64 0, .bool false]) ?_ 2 _ rfl; (with_reducible repeat (first | refine blk_drewN ?_ _ | refine blk_drew ?_ | refine blk_alloc ?_ _)); refine blk_put (cs := #[.slice none 0 0, .slice none 0 0, .int .i64 0, .bool false]) ?_ 1 _ rfl; (with_reducible repeat (first | refine blk_drewN ?_ _ | refine blk_drew ?_ | refine blk_alloc ?_ _)); refine blk_put (cs := #[.slice none 0 0, .slice none 0 0, .int .i64 0, .bool false]) ?_ 0 _ rfl; (with_reducible repeat (first | refine blk_drewN ?_ _ | refine blk_drew ?_ | refine blk_alloc ?_ _)); exact BK1143.out) Try.underlying25 rfl (by kernel_rfl)) rfl ?_
  exact ⟨_, _, by first | rfl | (simp [errW_none, errW_some] <;> rfl) | (simp [*, errW_none, errW_some] <;> rfl), by first | exact Kd.R_nil _ _ _ _ _ | exact Kd.N_nil _ _ _ _ _ | exact Kd.V_nil _ _ _ _ _ | exact Kd.Q_nil _ _ _ _ _ | exact Kd.S_nil _ _ _ _ _, by first | exact Kd.S_nil _ _ _ _ _ | exact Kd.N_nil _ _ _ _ _ | exact Kd.V_nil _ _ _ _ _ | exact Kd.Q_nil _ _ _ _ _ | exact Kd.R_nil _ _ _ _ _, by repeat (first | (with_reducible first | exact HB.out | apply below_alloc | apply pw_below_drewN | apply below_drew1 | refine below_set ?_ GE1143.out) | exact HB.out)⟩
 ·rw [if_neg c2] at H
  have c2b0 : decide (a0 < 16) = false := decide_eq_false c2
  clear c2
  by_cases c5 : a0 > 1024
  ·rw [if_pos c5] at H
   have c5b0 : decide (1024 < a0) = true := decide_eq_true c5
   clear c5
   simp only [Option.some.injEq, Prod.mk.injEq] at H
   obtain ⟨rfl, rfl, rfl, rfl⟩ := H
   go_enter Try.func120, Try.ntmps120
   go_wp2_with (first | ((with_reducible refine gate_dst (N := 2) rfl ?_); refine box_event ?hg (N := 2) ?hd (cs := #[.slice none 0 0, .slice none 0 0, .int .i64 0, .bool false]) (t := 25) ?hr ?_; (case hd => rfl); (case hg => rfl); (case hr => first | (go_simp; done) | (go_simp; rfl)); intro gb1143 hg w6 hbox hb; have n0_ := Aside0.mk (below_step (by repeat (first | (with_reducible first | exact HB.out | apply below_alloc | apply pw_below_drewN | apply below_drew1) | exact HB.out)) hb); have n1_ := Aside0.mk (hbox); have n2_ := Aside0.mk ((by rw [hg]; exact (below_size (by repeat (first | (with_reducible first | exact HB.out | apply below_alloc | apply pw_below_drewN | apply below_drew1) | exact HB.out))) : w.heap.size ≤ gb1143)); have n3_ := Aside0.mk ((by rw [hg]; exact (below_size (by repeat (first | (with_reducible first | exact HB.out | apply below_alloc | apply pw_below_drewN | apply below_drew1) | exact HB.out))) : w.heap.size ≤ gb1143)); clear HB; have HB := n0_; have BK1143 := n1_; have GW1143 := n2_; have GE1143 := n3_; clear n0_ n1_ n2_ n3_; clear hb hbox hg; have hcz7_0 : w6.cell? ⟨gb1143, 0, none⟩ = some (.slice none 0 0) := (blk_cell BK1143.out 0).trans rfl; have hcz7_1 : w6.cell? ⟨gb1143, 1, none⟩ = some (.slice none 0 0) := (blk_cell BK1143.out 1).trans rfl; have hcz7_2 : w6.cell? ⟨gb1143, 2, none⟩ = some (.int .i64 0) := (blk_cell BK1143.out 2).trans rfl; have hcz7_3 : w6.cell? ⟨gb1143, 3, none⟩ = some (.bool false) := (blk_cell BK1143.out 3).trans rfl; have hfz7_0 := blk_frozen BK1143.out 0; have hfz7_1 := blk_frozen BK1143.out 1; have hfz7_2 := blk_frozen BK1143.out 2; have hfz7_3 := blk_frozen BK1143.out 3))
   refine bodyPost_ret (results_cell_row rfl _ _ gb1143 25 #[.slice none 0 0, .slice none 0 0, .int .i64 0, .bool false] (0, 0) _ rfl (by (with_reducible repeat (first | refine blk_drewN ?_ _ | refine blk_drew ?_ | refine blk_alloc ?_ _)); refine blk_put (cs := #[.slice none 0 0, .slice none 0 0, .int .i64 0, .bool false]) ?_ 3 _ rfl; (with_reducible repeat (first | refine blk_drewN ?_ _ | refine blk_drew ?_ | refine blk_alloc ?_ _)); refine blk_put (cs := #[.slice none 0 0, .slice none 0 0, .int .i64 0, .bool false]) ?_ 2 _ rfl; (with_reducible repeat (first | refine blk_drewN ?_ _ | refine blk_drew ?_ | refine blk_alloc ?_ _)); refine blk_put (cs := #[.slice none 0 0, .slice none 0 0, .int .i64 0, .bool false]) ?_ 1 _ rfl; (with_reducible repeat (first | refine blk_drewN ?_ _ | refine blk_drew ?_ | refine blk_alloc ?_ _)); refine blk_put (cs := #[.slice none 0 0, .slice none 0 0, .int .i64 0, .bool false]) ?_ 0 _ rfl; (with_reducible repeat (first | refine blk_drewN ?_ _ | refine blk_drew ?_ | refine blk_alloc ?_ _)); exact BK1143.out) Try.underlying25 rfl (by kernel_rfl)) rfl ?_
   exact ⟨_, _, by first | rfl | (simp [errW_none, errW_some] <;> rfl) | (simp [*, errW_none, errW_some] <;> rfl), by first | exact Kd.R_nil _ _ _ _ _ | exact Kd.N_nil _ _ _ _ _ | exact Kd.V_nil _ _ _ _ _ | exact Kd.Q_nil _ _ _ _ _ | exact Kd.S_nil _ _ _ _ _, by first | exact Kd.S_nil _ _ _ _ _ | exact Kd.N_nil _ _ _ _ _ | exact Kd.V_nil _ _ _ _ _ | exact Kd.Q_nil _ _ _ _ _ | exact Kd.R_nil _ _ _ _ _, by repeat (first | (with_reducible first | exact HB.out | apply below_alloc | apply pw_below_drewN | apply below_drew1 | refine below_set ?_ GE1143.out) | exact HB.out)⟩
  ·rw [if_neg c5] at H
   have c5b0 : decide (1024 < a0) = false := decide_eq_false c5
   clear c5
   replace H := Option.bind_eq_some_iff.mp H
   obtain ⟨t1144, A80, H⟩ := H
   replace H : (some (t1144, ([] : List (S79)), (-1), false)) = some (r1, r2, r3, r4) := H
   have A8 := Aside0.mk A80
   clear A80
   simp only [Option.some.injEq, Prod.mk.injEq] at H
   obtain ⟨rfl, rfl, rfl, rfl⟩ := H
   go_enter Try.func120, Try.ntmps120
   go_wp2_with (first | ((with_reducible refine gate_dst (N := 2) rfl ?_); refine box_event ?hg (N := 2) ?hd (cs := #[.slice none 0 0, .slice none 0 0, .int .i64 0, .bool false]) (t := 25) ?hr ?_; (case hd => rfl); (case hg => rfl); (case hr => first | (go_simp; done) | (go_simp; rfl)); intro gb1143 hg w9 hbox hb; have n0_ := Aside0.mk (below_step (by repeat (first | (with_reducible first | exact HB.out | apply below_alloc | apply pw_below_drewN | apply below_drew1) | exact HB.out)) hb); have n1_ := Aside0.mk (hbox); have n2_ := Aside0.mk ((by rw [hg]; exact (below_size (by repeat (first | (with_reducible first | exact HB.out | apply below_alloc | apply pw_below_drewN | apply below_drew1) | exact HB.out))) : w.heap.size ≤ gb1143)); have n3_ := Aside0.mk ((by rw [hg]; exact (below_size (by repeat (first | (with_reducible first | exact HB.out | apply below_alloc | apply pw_below_drewN | apply below_drew1) | exact HB.out))) : w.heap.size ≤ gb1143)); clear HB; have HB := n0_; have BK1143 := n1_; have GW1143 := n2_; have GE1143 := n3_; clear n0_ n1_ n2_ n3_; clear hb hbox hg) | ((with_reducible refine gate_callee (f := 101) rfl ?_); refine goesL_ (some 12) rfl rfl Try.func101 (by kernel_rfl) rfl #[.int .i64 (wrap64 (a0 * 64))] rfl (by (try simp only [List.map_toArray, List.map_cons, List.map_nil]); first | done | rfl | (simp only [List.length_drop, List.length_take]; rfl)) ?_; (with_reducible refine (spec_l1Zeros.calls k (wrap64 (a0 * 64)) t1144 _ A8.out).mono ?_); rintro e w10 ⟨v1145, rfl, ho0, hb⟩; refine ⟨_, rfl, ?_⟩; have n0_ := Aside0.mk (Kd.R_lower ho0 (below_size (by repeat (first | (with_reducible first | exact HB.out | apply below_alloc | apply pw_below_drewN | apply below_drew1 | refine below_set ?_ GE1143.out) | exact HB.out)))); have n1_ := Aside0.mk (blk_below (g := gb1143) (o := .cells #[.slice none 0 0, .slice none 0 0, .int .i64 0, .bool false] 25 (0, 0)) (by (with_reducible repeat (first | refine blk_drewN ?_ _ | refine blk_drew ?_ | refine blk_alloc ?_ _)); exact BK1143.out) hb); have n2_ := Aside0.mk (below_step (by repeat (first | (with_reducible first | exact HB.out | apply below_alloc | apply pw_below_drewN | apply below_drew1 | refine below_set ?_ GE1143.out) | exact HB.out)) hb); clear BK1143; clear HB; have HO1146 := n0_; have BK1143 := n1_; have HB := n2_; clear n0_ n1_ n2_; (try clear hb); (try clear hb2); (try clear hk); (try clear hi); (try clear ho0); obtain ⟨Ao11, co11, eo11⟩ := Kd.R_slice HO1146.out; subst eo11; have hcz12_0 : w10.cell? ⟨gb1143, 0, none⟩ = some (.slice none 0 0) := (blk_cell BK1143.out 0).trans rfl; have hcz12_1 : w10.cell? ⟨gb1143, 1, none⟩ = some (.slice none 0 0) := (blk_cell BK1143.out 1).trans rfl; have hcz12_2 : w10.cell? ⟨gb1143, 2, none⟩ = some (.int .i64 0) := (blk_cell BK1143.out 2).trans rfl; have hcz12_3 : w10.cell? ⟨gb1143, 3, none⟩ = some (.bool false) := (blk_cell BK1143.out 3).trans rfl; have hfz12_0 := blk_frozen BK1143.out 0; have hfz12_1 := blk_frozen BK1143.out 1; have hfz12_2 := blk_frozen BK1143.out 2; have hfz12_3 := blk_frozen BK1143.out 3))
   refine bodyPost_ret (results_cell_row rfl _ _ gb1143 25 #[.slice Ao11 t1144.length co11, .slice none 0 0, .int .i64 (-1), .bool false] (0, 0) _ rfl (by (with_reducible repeat (first | refine blk_drewN ?_ _ | refine blk_drew ?_ | refine blk_alloc ?_ _)); refine blk_put (cs := #[.slice Ao11 t1144.length co11, .slice none 0 0, .int .i64 (-1), .bool false]) ?_ 3 _ rfl; (with_reducible repeat (first | refine blk_drewN ?_ _ | refine blk_drew ?_ | refine blk_alloc ?_ _)); refine blk_put (cs := #[.slice Ao11 t1144.length co11, .slice none 0 0, .int .i64 0, .bool false]) ?_ 2 _ rfl; (with_reducible repeat (first | refine blk_drewN ?_ _ | refine blk_drew ?_ | refine blk_alloc ?_ _)); refine blk_put (cs := #[.slice Ao11 t1144.length co11, .slice none 0 0, .int .i64 0, .bool false]) ?_ 1 _ rfl; (with_reducible repeat (first | refine blk_drewN ?_ _ | refine blk_drew ?_ | refine blk_alloc ?_ _)); refine blk_put (cs := #[.slice none 0 0, .slice none 0 0, .int .i64 0, .bool false]) ?_ 0 _ rfl; (with_reducible repeat (first | refine blk_drewN ?_ _ | refine blk_drew ?_ | refine blk_alloc ?_ _)); exact BK1143.out) Try.underlying25 rfl (by kernel_rfl)) rfl ?_
   exact ⟨_, _, by first | rfl | (simp [errW_none, errW_some] <;> rfl) | (simp [*, errW_none, errW_some] <;> rfl), by (with_reducible repeat (first | apply Kd.R_alloc | apply Kd.R_drewN | apply Kd.R_drew)); exact Kd.R_mono (Kd.R_far (p := ⟨gb1143, 3, none⟩) (Kd.R_far (p := ⟨gb1143, 2, none⟩) (Kd.R_far (p := ⟨gb1143, 1, none⟩) (Kd.R_far (p := ⟨gb1143, 0, none⟩) (Kd.R_types HO1146.out BK1143.out (by decide)) (fun _ hk => hk.2) (.slice Ao11 t1144.length co11)) (fun _ hk => hk.2) (.slice none 0 0)) (fun _ hk => hk.2) (.int .i64 (-1))) (fun _ hk => hk.2) (.bool false)) (fun _ hk => trivial), by first | exact Kd.S_nil _ _ _ _ _ | exact Kd.N_nil _ _ _ _ _ | exact Kd.V_nil _ _ _ _ _ | exact Kd.Q_nil _ _ _ _ _ | exact Kd.R_nil _ _ _ _ _, by repeat (first | (with_reducible first | exact HB.out | apply below_alloc | apply pw_below_drewN | apply below_drew1 | refine below_set ?_ GE1143.out) | exact HB.out)⟩
end Go.Proofs.Yteddpdonmhiplaa.PR
