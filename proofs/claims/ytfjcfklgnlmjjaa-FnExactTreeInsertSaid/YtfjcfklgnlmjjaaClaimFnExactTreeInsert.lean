/- The row of the law FnExactTreeInsert, out of its walk and its plain law: for every input the call returns true, and the arguments read as before. No conditions. -/
import Derived.Test.YtfjcfklgnlmjjaaMFnExactTreeInserth
import Derived.Test.YtfjcfklgnlmjjaaRows
import Derived.Test.YtfjcfklgnlmjjaaOpens
import Derived.WalkKit
import Derived.ProofKit
import Derived.OpenShut
import Derived.ShutString
import Derived.ChangeOld
import Derived.Below
import Derived.SizedLaws
namespace Go.Proofs.Ytfjcfklgnlmjjaa.fnExactTreeInsert
open Go.ChangeShapes Go.WideShapes Go.ChangeAt Go.RowKit Go.Proofs.Ytfjcfklgnlmjjaa.PB Go.Proofs.Ytfjcfklgnlmjjaa.Opens Go.Proofs.YtfjcfklgnlmjjaaW.PrintWords
open Go.ChangeMaps (open_string shut_string)
set_option linter.unusedVariables false
theorem own : ownKnob Try.prog.godebug = none := by kernel_rfl
theorem laidOut : laidOutB Try.prog = true := by kernel_rfl
set_option maxRecDepth 100000 in
theorem lifted (os : Os) (started : os.Started) (H : Type) (enc : TypeId × Value → H) :
    ReturnsInHanded {} Try.checked os 7 .any (Rows.fnExactTreeInsertSpec.pre6 enc Try.prog Try.f7 Rows.fnExactTreeInsertRow.domain false) (Rows.fnExactTreeInsertSpec.post enc Try.prog Try.f7 false true false false) := by
  refine returnsInHanded_of_change_sized (C := Try.checked) own started (by kernel_rfl) Try.func7
    (ChangeSpec.witness6 (enc := enc) (C := Try.checked) false ⟨#[], #[.agg #[.slice none 0 0], .string ByteArray.empty], []⟩ 8 (by kernel_rfl) (by kernel_rfl) (by kernel_rfl) (by kernel_rfl)) ?_
  intro W base args ds gs before hval0 hW hcnd hsz0 _
  have hval : ∀ (j : Nat) t v, Try.f7.params[j]? = some t → args[j]? = some v → Value.okWide Try.prog W .any base t v := hval0
  have hW' := hW
  obtain ⟨p, q, hA0, hV, rfl, hfz, hnd⟩ := hW
  have hA : DataW.TrodAll enc Try.prog W 0 (fun _ => true) true Try.f7.params.toList args.toList ds p := hA0
  rw [Try.params7] at hA hval
  obtain ⟨v0, vs0, d0, ds0, p0, q0, hargs, rfl, rfl, h0, r0⟩ := trodAll_cons hA
  obtain ⟨v1, vs1, d1, ds1, p1, q1, rfl, rfl, rfl, h1, r1⟩ := trodAll_cons r0
  obtain ⟨rfl, rfl, rfl⟩ := trodAll_nil r1
  obtain rfl : args = #[v0, v1] := by cases args; simp_all
  obtain ⟨rfl, rfl⟩ := trodVars_none hV
  have k0 := h0
  have lt0 : ∀ x ∈ p0, x.block < W.heap.size := by obtain ⟨m, hm⟩ := k0; exact DataW.trod_lt m _ _ _ hm
  obtain ⟨cs0, l0_0, rfl, hK0, F0⟩ := Opn.agg (Opn.struct1 Try.underlying31 rfl (by kernel_rfl) (Opn.slice (d := k98) Try.underlying29 (by kernel_rfl) (Opn.iso (Opn.struct4 Try.underlying98 rfl (by kernel_rfl) (Opn.bool Try.underlying4) rfl (by kernel_rfl) (Opn.slice (d := Kd.string) Try.underlying38 (by kernel_rfl) (Opn.string Try.underlying9)) rfl (by kernel_rfl) (Opn.slice (d := (Kd.int .i64)) Try.underlying88 (by kernel_rfl) (Opn.int Try.underlying2)) rfl (by kernel_rfl) (Opn.int Try.underlying2) (by kernel_rfl)) (fun x : S98 => (x.f0, x.f1, x.f2, x.f3)) (fun p => ⟨p.1, p.2.1, p.2.2.1, p.2.2.2⟩) (fun _ => rfl))) (by kernel_rfl)) Try.underlying31 (hval 0 31 v0 rfl rfl) h0
  obtain ⟨A0_0, c0_0, e0, hc0_0, hr0_0⟩ := hK0
  obtain rfl : cs0 = #[.slice A0_0 l0_0.length c0_0] := by apply Array.toList_inj.1; simpa using e0
  clear e0
  obtain ⟨a1, rfl, rfl, rfl, F1⟩ := open_string Try.underlying9 (hval 1 9 v1 rfl rfl) h1
  clear hA0 hval0 hsz0
  refine (Go.Proofs.Ytfjcfklgnlmjjaa.PB.main_TreeInsert A0_0 c0_0 l0_0 a1 F0 F1 W hr0_0 hc0_0).mono fun e W' ⟨he, bel⟩ => ?_
  subst he
  exact ⟨_, rfl, _, _, _, [], _, [], hW', trodAll_mk1 (shut_bool Try.underlying4 _), (trodAll_cons_mk (Below.trod laidOut (by kernel_rfl) (of_decide_eq_true (by kernel_rfl)) k0 bel lt0) (trodAll_cons_mk (shut_string Try.underlying9 F1) trodAll_mk0)), rfl, bel.frame _, fun h => by cases h⟩
theorem over : Rows.fnExactTreeInsertRow.holds Try.pinned (OpenSpec.ofChange Rows.fnExactTreeInsertSpec) :=
  OpenClaim.holds_of_wide 7 Try.f7 rfl rfl rfl rfl rfl rfl rfl ⟨rfl, rfl, rfl, rfl, rfl⟩ rfl rfl rfl rfl rfl (by kernel_rfl) Try.func7 (by kernel_rfl)
    (of_decide_eq_true (by kernel_rfl)) (by unfold Func.isWrapper; first | (rw [if_pos (by decide +kernel)]; kernel_rfl) | (rw [if_neg (by decide +kernel)]; exact ⟨rfl, rfl⟩))
    (fun os started H enc _ => lifted os started H enc)
theorem proved : Rows.FnExactTreeInsertSaid := over
#print axioms proved
end Go.Proofs.Ytfjcfklgnlmjjaa.fnExactTreeInsert
namespace Go.Proofs.Ytfjcfklgnlmjjaa
/-- The row, under a short name, for the claim. -/
theorem fnExactTreeInsert_holds : Rows.FnExactTreeInsertSaid := fnExactTreeInsert.proved
end Go.Proofs.Ytfjcfklgnlmjjaa
