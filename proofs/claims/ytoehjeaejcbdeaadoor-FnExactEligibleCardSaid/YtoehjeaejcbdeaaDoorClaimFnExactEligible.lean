/- The row of the law FnExactEligible, out of its walk and its plain law: for every input the call returns true, and the arguments read as before. No conditions. -/
import Derived.Test.YtoehjeaejcbdeaaDoorMFnExactEligiblea
import Derived.Test.YtoehjeaejcbdeaaDoorRows
import Derived.Test.YtoehjeaejcbdeaaDoorOpens
import Derived.Test.YtoehjeaejcbdeaaDoorCFnExactEligibleOrds
import Derived.Test.YtoehjeaejcbdeaaDoorTie
import Derived.Test.YtoehjeaejcbdeaaDoorCards
import Derived.WalkKit
import Derived.ProofKit
import Derived.OpenShut
import Derived.ShutString
import Derived.ChangeOld
import Derived.Below
import Derived.SizedLaws
import Derived.SevenTiedAt
import Derived.LaidMore
import Derived.ChangeVars
import Derived.Stop.Joined
namespace Go.Proofs.YtoehjeaejcbdeaaDoor.fnExactEligible
open Go.ChangeShapes Go.WideShapes Go.ChangeAt Go.RowKit Go.Proofs.YtoehjeaejcbdeaaDoor.PE Go.Proofs.YtoehjeaejcbdeaaDoor.Opens Go.Proofs.YtoehjeaejcbdeaaDoorW.PrintWords
open Go.ChangeMaps (open_string shut_string)
set_option linter.unusedVariables false
theorem own : ownKnob Tryd.prog.godebug = none := by kernel_rfl
theorem laidOut : laidOutB Tryd.prog = true := by kernel_rfl
set_option maxRecDepth 100000 in
theorem lifted (os : Os) (started : os.Started) (H : Type) (enc : TypeId × Value → H) :
    ReturnsInHanded {} Tryd.checked os 3 .any (fun w args => (Rows.fnExactEligibleSpec.pre enc Tryd.prog Tryd.f3 [] false w args ∧ laidMetH Tryd.prog Ord.laidL w) ∧ sizedMet enc Tryd.prog Tryd.f3 (OpenSpec.ofChange Rows.fnExactEligibleSpec) false w args) (Rows.fnExactEligibleSpec.post enc Tryd.prog Tryd.f3 false true false false) := by
  refine returnsInHanded_of_change_and (C := Tryd.checked) (X := fun w _ => laidMetH Tryd.prog Ord.laidL w) (fun _ _ _ hh h => h.of_heap hh) own started (by kernel_rfl) Tryd.func3
    (ChangeSpec.witness_shaped (enc := enc) (C := Tryd.checked) (os := os) (X := fun w _ => laidMetH Tryd.prog Ord.laidL w) false (World.doorLaid Tryd.prog 400 os) #[.int .i64 0, .agg #[.int .i64 0, .int .i64 0, .int .i64 0, .int .i64 0]] 8 rfl (World.shaped_of_RefB (by kernel_rfl) (by kernel_rfl)) (by kernel_rfl) (by kernel_rfl) (by kernel_rfl) (Ord.door_met os _)) ?_
  intro W base args ds gs before hval0 hW _ hsz0 hL _
  have hval : ∀ (j : Nat) t v, Tryd.f3.params[j]? = some t → args[j]? = some v → Value.okWide Tryd.prog W .any base t v := hval0
  have hW' := hW
  obtain ⟨p, q, hA0, hV, rfl, hfz, hnd⟩ := hW
  have hA : DataW.TrodAll enc Tryd.prog W 0 (fun _ => true) true Tryd.f3.params.toList args.toList ds p := hA0
  rw [Tryd.params3] at hA hval
  obtain ⟨v0, vs0, d0, ds0, p0, q0, hargs, rfl, rfl, h0, r0⟩ := trodAll_cons hA
  obtain ⟨v1, vs1, d1, ds1, p1, q1, rfl, rfl, rfl, h1, r1⟩ := trodAll_cons r0
  obtain ⟨rfl, rfl, rfl⟩ := trodAll_nil r1
  obtain rfl : args = #[v0, v1] := by cases args; simp_all
  obtain ⟨rfl, hvar⟩ := Ord.vars_open hL (show DataW.TrodVars enc Tryd.prog W (fun _ => true) [Ord.nm] gs q from hV)
  obtain ⟨a0, rfl, rfl, rfl, F0⟩ := open_int Tryd.underlying2 (hval 0 2 v0 rfl rfl) h0
  have k1 := h1
  have lt1 : ∀ x ∈ p1, x.block < W.heap.size := by obtain ⟨m, hm⟩ := k1; exact DataW.trod_lt m _ _ _ hm
  obtain ⟨cs1, ⟨a1_0, a1_1, a1_2, a1_3⟩, rfl, hK1, F1⟩ := Opn.agg (Opn.struct4 Tryd.underlying23 rfl (by kernel_rfl) (Opn.int Tryd.underlying2) rfl (by kernel_rfl) (Opn.int Tryd.underlying2) rfl (by kernel_rfl) (Opn.int Tryd.underlying2) rfl (by kernel_rfl) (Opn.int Tryd.underlying2) (by kernel_rfl)) Tryd.underlying23 (hval 1 23 v1 rfl rfl) h1
  obtain ⟨_, _, e1, rfl, ⟨_, _, rfl, rfl, ⟨_, _, rfl, rfl, rfl⟩⟩⟩ := hK1
  obtain rfl : cs1 = #[.int .i64 a1_0, .int .i64 a1_1, .int .i64 a1_2, .int .i64 a1_3] := by apply Array.toList_inj.1; simpa using e1
  clear e1
  clear hA0 hval0 hsz0
  refine (main_Eligible a0 a1_0 a1_1 a1_2 a1_3  W (Ord.ords_of hvar)).mono fun e W' ⟨he, bel⟩ => ?_
  subst he
  exact ⟨_, rfl, _, _, _, [], _, _, hW', trodAll_mk1 (shut_bool Tryd.underlying4 _), (trodAll_cons_mk (shut_int Tryd.underlying2 F0) (trodAll_cons_mk (Below.trod laidOut (by kernel_rfl) (of_decide_eq_true (by kernel_rfl)) k1 bel lt1) trodAll_mk0)), Ord.vars_at enc (Ord.var_below hvar bel (Ord.ords_of hvar).1) _, bel.frame _, fun h => by cases h⟩
theorem over : Rows.fnExactEligibleRow.holds Tryd.pinned (OpenSpec.ofChange Rows.fnExactEligibleSpec) :=
  OpenClaim.holds_of_wide 3 Tryd.f3 rfl rfl rfl rfl rfl rfl rfl ⟨rfl, rfl, rfl, rfl, rfl⟩ rfl rfl rfl rfl rfl (by kernel_rfl) Tryd.func3 (by kernel_rfl)
    (of_decide_eq_true (by kernel_rfl)) (by unfold Func.isWrapper; first | (rw [if_pos (by decide +kernel)]; kernel_rfl) | (rw [if_neg (by decide +kernel)]; exact ⟨rfl, rfl⟩))
    (fun os started H enc _ => lifted os started H enc)
open Go in
theorem card : Rows.FnExactEligibleCardSaid :=
  Claim7.holds_tied_plain_at .later [] [.data] true Rows.fnExactEligibleCard.stood.harness true over (fun _ h => by cases h) (by kernel_rfl) (fun _ h => by cases h) fnExactEligible_row_tie rfl ⟨rfl, rfl⟩ (by kernel_rfl) rfl
    (fun f fn hf hfn => by
      obtain rfl : f = 3 := Option.some.inj ((show Tryd.prog.funcNamed "loop.example/s01136/laws.FnExactEligible" = some 3 by kernel_rfl).symm.trans hf) |>.symm
      obtain rfl : fn = Tryd.f3 := (Option.some.inj (Tryd.func3.symm.trans hfn)).symm
      exact ⟨by kernel_rfl, fun j t ht => by
        rw [Tryd.params3] at ht
        have hm : t ∈ [2, 23] := by simpa using Array.mem_of_getElem? ht
        have hall : ([2, 23].all fun u => !Tryd.prog.wantsStandIn u) = true := by kernel_rfl
        exact (show Tryd.prog.wantsStandIn t = false by simpa using List.all_eq_true.1 hall t hm)⟩)
    (by kernel_rfl)
theorem proved : Rows.FnExactEligibleCardSaid := card
#print axioms proved
end Go.Proofs.YtoehjeaejcbdeaaDoor.fnExactEligible
namespace Go.Proofs.YtoehjeaejcbdeaaDoor
/-- The row, under a short name, for the claim. -/
theorem fnExactEligible_holds : Rows.FnExactEligibleCardSaid := fnExactEligible.proved
end Go.Proofs.YtoehjeaejcbdeaaDoor
