/- The row of the law FnExactTreeRange, out of its walk and its plain law: for every input the call returns true, and the arguments read as before. No conditions. -/
import Derived.Test.YtfjcfklgnlmjjaaMFnExactTreeRangee
import Derived.Test.YtfjcfklgnlmjjaaRows
import Derived.Test.YtfjcfklgnlmjjaaOpens
import Derived.WalkKit
import Derived.ProofKit
import Derived.OpenShut
import Derived.ShutString
import Derived.ChangeOld
import Derived.Below
import Derived.SizedLaws
namespace Go.Proofs.Ytfjcfklgnlmjjaa.fnExactTreeRange
open Go.ChangeShapes Go.WideShapes Go.ChangeAt Go.RowKit Go.Proofs.Ytfjcfklgnlmjjaa.PB Go.Proofs.Ytfjcfklgnlmjjaa.Opens Go.Proofs.YtfjcfklgnlmjjaaW.PrintWords
open Go.ChangeMaps (open_string shut_string)
set_option linter.unusedVariables false
theorem own : ownKnob Try.prog.godebug = none := by kernel_rfl
theorem laidOut : laidOutB Try.prog = true := by kernel_rfl
set_option maxRecDepth 100000 in
theorem lifted (os : Os) (started : os.Started) (H : Type) (enc : TypeId × Value → H) :
    ReturnsInHanded {} Try.checked os 6 .any (Rows.fnExactTreeRangeSpec.pre6 enc Try.prog Try.f6 Rows.fnExactTreeRangeRow.domain false) (Rows.fnExactTreeRangeSpec.post enc Try.prog Try.f6 false true false false) := by
  refine returnsInHanded_of_change_sized (C := Try.checked) own started (by kernel_rfl) Try.func6
    (ChangeSpec.witness6 (enc := enc) (C := Try.checked) false ⟨#[], #[.agg #[.slice none 0 0], .string ByteArray.empty, .string ByteArray.empty], []⟩ 8 (by kernel_rfl) (by kernel_rfl) (by kernel_rfl) (by kernel_rfl)) ?_
  intro W base args ds gs before hval0 hW hcnd hsz0 _
  have hval : ∀ (j : Nat) t v, Try.f6.params[j]? = some t → args[j]? = some v → Value.okWide Try.prog W .any base t v := hval0
  have hW' := hW
  obtain ⟨p, q, hA0, hV, rfl, hfz, hnd⟩ := hW
  have hA : DataW.TrodAll enc Try.prog W 0 (fun _ => true) true Try.f6.params.toList args.toList ds p := hA0
  rw [Try.params6] at hA hval
  obtain ⟨v0, vs0, d0, ds0, p0, q0, hargs, rfl, rfl, h0, r0⟩ := trodAll_cons hA
  obtain ⟨v1, vs1, d1, ds1, p1, q1, rfl, rfl, rfl, h1, r1⟩ := trodAll_cons r0
  obtain ⟨v2, vs2, d2, ds2, p2, q2, rfl, rfl, rfl, h2, r2⟩ := trodAll_cons r1
  obtain ⟨rfl, rfl, rfl⟩ := trodAll_nil r2
  obtain rfl : args = #[v0, v1, v2] := by cases args; simp_all
  obtain ⟨rfl, rfl⟩ := trodVars_none hV
  have k0 := h0
  have lt0 : ∀ x ∈ p0, x.block < W.heap.size := by obtain ⟨m, hm⟩ := k0; exact DataW.trod_lt m _ _ _ hm
  obtain ⟨cs0, l0_0, rfl, hK0, F0⟩ := Opn.agg (Opn.struct1 Try.underlying31 rfl (by kernel_rfl) (Opn.slice (d := k98) Try.underlying29 (by kernel_rfl) (Opn.iso (Opn.struct4 Try.underlying98 rfl (by kernel_rfl) (Opn.bool Try.underlying4) rfl (by kernel_rfl) (Opn.slice (d := Kd.string) Try.underlying38 (by kernel_rfl) (Opn.string Try.underlying9)) rfl (by kernel_rfl) (Opn.slice (d := (Kd.int .i64)) Try.underlying88 (by kernel_rfl) (Opn.int Try.underlying2)) rfl (by kernel_rfl) (Opn.int Try.underlying2) (by kernel_rfl)) (fun x : S98 => (x.f0, x.f1, x.f2, x.f3)) (fun p => ⟨p.1, p.2.1, p.2.2.1, p.2.2.2⟩) (fun _ => rfl))) (by kernel_rfl)) Try.underlying31 (hval 0 31 v0 rfl rfl) h0
  obtain ⟨A0_0, c0_0, e0, hc0_0, hr0_0⟩ := hK0
  obtain rfl : cs0 = #[.slice A0_0 l0_0.length c0_0] := by apply Array.toList_inj.1; simpa using e0
  clear e0
  obtain ⟨a1, rfl, rfl, rfl, F1⟩ := open_string Try.underlying9 (hval 1 9 v1 rfl rfl) h1
  obtain ⟨a2, rfl, rfl, rfl, F2⟩ := open_string Try.underlying9 (hval 2 9 v2 rfl rfl) h2
  clear hA0 hval0 hsz0
  refine (Go.Proofs.Ytfjcfklgnlmjjaa.PB.main_TreeRange A0_0 c0_0 l0_0 a1 a2 F0 F1 F2 W hr0_0 hc0_0).mono fun e W' ⟨he, bel⟩ => ?_
  subst he
  exact ⟨_, rfl, _, _, _, [], _, [], hW', trodAll_mk1 (shut_bool Try.underlying4 _), (trodAll_cons_mk (Below.trod laidOut (by kernel_rfl) (of_decide_eq_true (by kernel_rfl)) k0 bel lt0) (trodAll_cons_mk (shut_string Try.underlying9 F1) (trodAll_cons_mk (shut_string Try.underlying9 F2) trodAll_mk0))), rfl, bel.frame _, fun h => by cases h⟩
theorem over : Rows.fnExactTreeRangeRow.holds Try.pinned (OpenSpec.ofChange Rows.fnExactTreeRangeSpec) :=
  OpenClaim.holds_of_wide 6 Try.f6 rfl rfl rfl rfl rfl rfl rfl ⟨rfl, rfl, rfl, rfl, rfl⟩ rfl rfl rfl rfl rfl (by kernel_rfl) Try.func6 (by kernel_rfl)
    (of_decide_eq_true (by kernel_rfl)) (by unfold Func.isWrapper; first | (rw [if_pos (by decide +kernel)]; kernel_rfl) | (rw [if_neg (by decide +kernel)]; exact ⟨rfl, rfl⟩))
    (fun os started H enc _ => lifted os started H enc)
theorem proved : Rows.FnExactTreeRangeSaid := over
#print axioms proved
end Go.Proofs.Ytfjcfklgnlmjjaa.fnExactTreeRange
namespace Go.Proofs.Ytfjcfklgnlmjjaa
/-- The row, under a short name, for the claim. -/
theorem fnExactTreeRange_holds : Rows.FnExactTreeRangeSaid := fnExactTreeRange.proved
end Go.Proofs.Ytfjcfklgnlmjjaa
