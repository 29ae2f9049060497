/- What the condition on the package's table 'orders' gives: its cells. No conditions. -/
import Derived.Test.YtoehjeaejcbdeaaDoorMFnExactEligiblea
import Derived.Test.YtoehjeaejcbdeaaDoorRows
import Derived.ProofKit
import Derived.LaidMore
import Derived.LaidHandle
import Derived.MakeChecks
import Derived.OpenShut
import Derived.ChangeVars
import Derived.Stop.Joined
namespace Go.Proofs.YtoehjeaejcbdeaaDoor.Ord
open Go.ChangeShapes Go.WideShapes Go.ChangeAt Go.RowKit Go.Proofs.YtoehjeaejcbdeaaDoor.PE
set_option linter.unusedVariables false
set_option maxRecDepth 100000
abbrev nm : String := "loop.example/s01136/impl.orders"
def laidL : List (String × DataW Unit) := [(nm, Rows.laid_loop_example_s01136_impl_orders)]
theorem gOrd : Tryd.prog.globalNamed nm = some 0 := by kernel_rfl
theorem tOrd : (Tryd.prog.globals[0]?).map (·.type) = some 52 := by kernel_rfl
theorem door_met (os : Os) (args : Array Value) : laidMetH Tryd.prog laidL ((World.doorLaid Tryd.prog 400 os).forCall (fun _ _ => 0) ⟨#[], args, []⟩).memory :=
  laidMetH_of_parts3 (fuel := 8) (laidMet_of_run' 8 (by kernel_rfl) (by kernel_rfl)) (by kernel_rfl) (by kernel_rfl)
def cellsO : Array Value := (ordL.map (Value.int .i64)).toArray
theorem row_of {H : Type} {enc : TypeId × Value → H} {W : World} {base : Nat} {sp : Nat → Bool} {held : Bool} {fuel : Nat} {l : List Value} {a b c d : Int} {q : List MemPlace}
    (h : DataW.trod enc Tryd.prog W base sp held fuel 51 l = some (.agg [.lit (.int .i64 a), .lit (.int .i64 b), .lit (.int .i64 c), .lit (.int .i64 d)], q)) : l = [.int .i64 a, .int .i64 b, .int .i64 c, .int .i64 d] := by
  obtain ⟨xs, m, rfl, hx, hlen, hn, hel⟩ := DataW.trod_array Tryd.underlying51 h
  have c3 : Tryd.prog.cellsOf 3 = 1 := by kernel_rfl
  have c4 : Tryd.prog.cellsOf 51 = 4 := by kernel_rfl
  rw [c4] at hlen
  simp only [Prod.mk.injEq, DataW.agg.injEq] at hx
  match xs, hn, hx, hel with
  | [x0, x1, x2, x3], _, hx, hel =>
    match l, hlen, hel with
    | [v0, v1, v2, v3], _, hel =>
      have h0 := hel 0 (by decide)
      have h1 := hel 1 (by decide)
      have h2 := hel 2 (by decide)
      have h3 := hel 3 (by decide)
      rw [c3] at h0 h1 h2 h3
      obtain ⟨n0, e0, f0, _⟩ := DataW.trod_int Tryd.underlying3 (show DataW.trod _ Tryd.prog W base _ held m 3 [v0] = some x0 from h0)
      obtain ⟨n1, e1, f1, _⟩ := DataW.trod_int Tryd.underlying3 (show DataW.trod _ Tryd.prog W base _ held m 3 [v1] = some x1 from h1)
      obtain ⟨n2, e2, f2, _⟩ := DataW.trod_int Tryd.underlying3 (show DataW.trod _ Tryd.prog W base _ held m 3 [v2] = some x2 from h2)
      obtain ⟨n3, e3, f3, _⟩ := DataW.trod_int Tryd.underlying3 (show DataW.trod _ Tryd.prog W base _ held m 3 [v3] = some x3 from h3)
      subst f0 f1 f2 f3
      simp only [List.map_cons, List.map_nil, List.cons.injEq, DataW.lit.injEq, Lit.int.injEq, true_and, and_true] at hx e0 e1 e2 e3
      obtain ⟨⟨rfl, rfl, rfl, rfl⟩, _⟩ := hx
      rw [e0, e1, e2, e3]
theorem cells_of {H : Type} {enc : TypeId × Value → H} {W : World} {base : Nat} {sp : Nat → Bool} {held : Bool} {fuel : Nat} {l : List Value} {q : List MemPlace}
    (h : DataW.trod enc Tryd.prog W base sp held fuel 52 l = some (Rows.laid_loop_example_s01136_impl_orders, q)) : l = cellsO.toList := by
  obtain ⟨xs, m, rfl, hx, hlen, hn, hel⟩ := DataW.trod_array Tryd.underlying52 h
  have c4 : Tryd.prog.cellsOf 51 = 4 := by kernel_rfl
  have c24 : Tryd.prog.cellsOf 52 = 24 := by kernel_rfl
  rw [c24] at hlen
  rw [c4] at hel
  unfold Rows.laid_loop_example_s01136_impl_orders at hx
  simp only [Prod.mk.injEq, DataW.agg.injEq] at hx
  match xs, hn, hx, hel with
  | [(x0, q0), (x1, q1), (x2, q2), (x3, q3), (x4, q4), (x5, q5)], _, hx, hel =>
    simp only [List.map_cons, List.map_nil, List.cons.injEq, and_true] at hx
    obtain ⟨⟨rfl, rfl, rfl, rfl, rfl, rfl⟩, _⟩ := hx
    have h0 := row_of (hel 0 (by decide))
    have h1 := row_of (hel 1 (by decide))
    have h2 := row_of (hel 2 (by decide))
    have h3 := row_of (hel 3 (by decide))
    have h4 := row_of (hel 4 (by decide))
    have h5 := row_of (hel 5 (by decide))
    have e : l = (l.drop (0 * 4)).take 4 ++ ((l.drop (1 * 4)).take 4 ++ ((l.drop (2 * 4)).take 4 ++ ((l.drop (3 * 4)).take 4 ++ ((l.drop (4 * 4)).take 4 ++ (l.drop (5 * 4)).take 4)))) := by
      apply List.ext_getElem?
      intro j
      simp only [List.getElem?_append, List.length_take, List.length_drop, List.getElem?_take, List.getElem?_drop, hlen]
      repeat' split
      all_goals first | omega | (congr 1; omega) | (rw [List.getElem?_eq_none]; omega)
    rw [e, h0, h1, h2, h3, h4, h5]
    rfl
theorem cells_of_laid {W : World} (h : laidMetH Tryd.prog laidL W) : W.var? Tryd.prog nm = some cellsO := by
  rw [MakeChecks.laidMetH_plain _ _ _ (by kernel_rfl)] at h
  obtain ⟨ps, ⟨g, t, cs, fuel, p, q, hg, ht, hvar, hd, _, _⟩, _⟩ := h
  obtain rfl := Option.some.inj (gOrd.symm.trans hg)
  obtain rfl := Option.some.inj (tOrd.symm.trans ht)
  rw [hvar]
  congr 1
  exact Array.toList_inj.1 (cells_of hd)
theorem ords_of {W : World} (h : W.var? Tryd.prog nm = some cellsO) : Ords W := by
  have hc := fun i => World.var?_cell gOrd h i
  have hj : ∀ (j : Nat) (v : Int), ordL[j]? = some v → W.cell? ⟨0, j, none⟩ = some (.int .i64 v) := fun j v hv => by
    rw [hc j]
    show (ordL.map (Value.int .i64)).toArray[j]? = _
    rw [List.getElem?_toArray, List.getElem?_map, hv]
    rfl
  refine ⟨?_, hj⟩
  have h0 := hj 0 0 rfl
  unfold World.cell? at h0
  by_cases c : 0 < W.heap.size
  · exact c
  · rw [Array.getElem?_eq_none (by omega)] at h0
    cases h0
theorem var_below {W W' : World} (h : W.var? Tryd.prog nm = some cellsO) (bel : Below W.heap.size W W') (h0 : 0 < W.heap.size) : W'.var? Tryd.prog nm = some cellsO := by
  unfold World.var? at h ⊢
  rw [gOrd] at h ⊢
  simp only [Option.bind_some] at h ⊢
  rw [bel.block 0 h0]
  exact h
abbrev ordD {H : Type} : DataW H := .agg [.agg [.lit (.int .i64 0), .lit (.int .i64 1), .lit (.int .i64 2), .lit (.int .i64 3)], .agg [.lit (.int .i64 1), .lit (.int .i64 2), .lit (.int .i64 0), .lit (.int .i64 3)], .agg [.lit (.int .i64 2), .lit (.int .i64 0), .lit (.int .i64 1), .lit (.int .i64 3)], .agg [.lit (.int .i64 3), .lit (.int .i64 0), .lit (.int .i64 1), .lit (.int .i64 2)], .agg [.lit (.int .i64 3), .lit (.int .i64 1), .lit (.int .i64 2), .lit (.int .i64 0)], .agg [.lit (.int .i64 3), .lit (.int .i64 2), .lit (.int .i64 0), .lit (.int .i64 1)]]
theorem reads {H : Type} (enc : TypeId × Value → H) (W : World) (sp : Nat → Bool) : DataW.trod enc Tryd.prog W 0 sp true 4 52 cellsO.toList = some (ordD, []) := by kernel_rfl
theorem vars_at {H : Type} (enc : TypeId × Value → H) {W : World} (h : W.var? Tryd.prog nm = some cellsO) (sp : Nat → Bool) : DataW.TrodVars enc Tryd.prog W sp [nm] [ordD] (MemPlace.row ⟨0, 0, none⟩ cellsO.size ++ [] ++ []) :=
  ⟨0, 52, cellsO, 4, [], [], gOrd, tOrd, h, reads enc W sp, rfl, rfl⟩
theorem vars_open {H : Type} {enc : TypeId × Value → H} {W : World} {sp : Nat → Bool} {gs : List (DataW H)} {q : List MemPlace} (hL : laidMetH Tryd.prog laidL W) (hV : DataW.TrodVars enc Tryd.prog W sp [nm] gs q) : gs = [ordD] ∧ W.var? Tryd.prog nm = some cellsO := by
  obtain ⟨g, t, cs, fuel, d, p', rfl, hg, ht, hvar, hd, rfl⟩ := trodVars_one hV
  obtain rfl := Option.some.inj (gOrd.symm.trans hg)
  obtain rfl := Option.some.inj (tOrd.symm.trans ht)
  obtain rfl : cs = cellsO := Option.some.inj (hvar.symm.trans (cells_of_laid hL))
  obtain ⟨rfl, rfl⟩ := DataW.Trod.unique (v := .agg cellsO) ⟨fuel, hd⟩ ⟨4, reads enc W _⟩
  exact ⟨rfl, hvar⟩
end Go.Proofs.YtoehjeaejcbdeaaDoor.Ord
