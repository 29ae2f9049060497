/- The row of the law FnExactWriteSuper, out of its walk and its plain law: for every input the call returns true, and the arguments read as before. No conditions. -/
import Derived.Test.YteddpdonmhiplaaMFnExactWriteSuperg
import Derived.Test.YteddpdonmhiplaaRows
import Derived.Test.YteddpdonmhiplaaOpens
import Derived.WalkKit
import Derived.ProofKit
import Derived.OpenShut
import Derived.ShutString
import Derived.ChangeOld
import Derived.Below
import Derived.SizedLaws
namespace Go.Proofs.Yteddpdonmhiplaa.fnExactWriteSuper
open Go.ChangeShapes Go.WideShapes Go.ChangeAt Go.RowKit Go.Proofs.Yteddpdonmhiplaa.PR Go.Proofs.Yteddpdonmhiplaa.Opens Go.Proofs.YteddpdonmhiplaaW.PrintWords
open Go.ChangeMaps (open_string shut_string)
set_option linter.unusedVariables false
theorem own : ownKnob Try.prog.godebug = none := by kernel_rfl
theorem laidOut : laidOutB Try.prog = true := by kernel_rfl
set_option maxRecDepth 100000 in
theorem lifted (os : Os) (started : os.Started) (H : Type) (enc : TypeId × Value → H) :
    ReturnsInHanded {} Try.checked os 6 .any (Rows.fnExactWriteSuperSpec.pre6 enc Try.prog Try.f6 Rows.fnExactWriteSuperRow.domain false) (Rows.fnExactWriteSuperSpec.post enc Try.prog Try.f6 false true false false) := by
  refine returnsInHanded_of_change_sized (C := Try.checked) own started (by kernel_rfl) Try.func6
    (ChangeSpec.witness6 (enc := enc) (C := Try.checked) false ⟨#[], #[.agg #[.slice none 0 0, .slice none 0 0, .int .i64 0, .bool false], .agg #[.int .i64 0, .int .i64 0, .int .i64 0]], []⟩ 8 (by kernel_rfl) (by kernel_rfl) (by kernel_rfl) (by kernel_rfl)) ?_
  intro W base args ds gs before hval0 hW hcnd hsz0 _
  have hval : ∀ (j : Nat) t v, Try.f6.params[j]? = some t → args[j]? = some v → Value.okWide Try.prog W .any base t v := hval0
  have hW' := hW
  obtain ⟨p, q, hA0, hV, rfl, hfz, hnd⟩ := hW
  have hA : DataW.TrodAll enc Try.prog W 0 (fun _ => true) true Try.f6.params.toList args.toList ds p := hA0
  rw [Try.params6] at hA hval
  obtain ⟨v0, vs0, d0, ds0, p0, q0, hargs, rfl, rfl, h0, r0⟩ := trodAll_cons hA
  obtain ⟨v1, vs1, d1, ds1, p1, q1, rfl, rfl, rfl, h1, r1⟩ := trodAll_cons r0
  obtain ⟨rfl, rfl, rfl⟩ := trodAll_nil r1
  obtain rfl : args = #[v0, v1] := by cases args; simp_all
  obtain ⟨rfl, rfl⟩ := trodVars_none hV
  have k0 := h0
  have lt0 : ∀ x ∈ p0, x.block < W.heap.size := by obtain ⟨m, hm⟩ := k0; exact DataW.trod_lt m _ _ _ hm
  obtain ⟨cs0, ⟨l0_0, l0_1, a0_2, a0_3⟩, rfl, hK0, F0⟩ := Opn.agg (Opn.struct4 Try.underlying37 rfl (by kernel_rfl) (Opn.slice (d := (Kd.int .u8)) Try.underlying22 (by kernel_rfl) (Opn.int Try.underlying5)) rfl (by kernel_rfl) (Opn.slice (d := k127) Try.underlying35 (by kernel_rfl) (Opn.iso (Opn.struct2 Try.underlying127 rfl (by kernel_rfl) (Opn.int Try.underlying2) rfl (by kernel_rfl) (Opn.slice (d := (Kd.int .u8)) Try.underlying22 (by kernel_rfl) (Opn.int Try.underlying5)) (by kernel_rfl)) (fun x : S127 => (x.f0, x.f1)) (fun p => ⟨p.1, p.2⟩) (fun _ => rfl))) rfl (by kernel_rfl) (Opn.int Try.underlying2) rfl (by kernel_rfl) (Opn.bool Try.underlying4) (by kernel_rfl)) Try.underlying37 (hval 0 37 v0 rfl rfl) h0
  obtain ⟨_, _, e0, ⟨A0_0, c0_0, rfl, hc0_0, hr0_0⟩, ⟨_, _, rfl, ⟨A0_1, c0_1, rfl, hc0_1, hr0_1⟩, ⟨_, _, rfl, rfl, rfl⟩⟩⟩ := hK0
  obtain rfl : cs0 = #[.slice A0_0 l0_0.length c0_0, .slice A0_1 l0_1.length c0_1, .int .i64 a0_2, .bool a0_3] := by apply Array.toList_inj.1; simpa using e0
  clear e0
  have k1 := h1
  have lt1 : ∀ x ∈ p1, x.block < W.heap.size := by obtain ⟨m, hm⟩ := k1; exact DataW.trod_lt m _ _ _ hm
  obtain ⟨cs1, ⟨a1_0, a1_1, a1_2⟩, rfl, hK1, F1⟩ := Opn.agg (Opn.struct3 Try.underlying55 rfl (by kernel_rfl) (Opn.int Try.underlying2) rfl (by kernel_rfl) (Opn.int Try.underlying2) rfl (by kernel_rfl) (Opn.int Try.underlying2) (by kernel_rfl)) Try.underlying55 (hval 1 55 v1 rfl rfl) h1
  obtain ⟨_, _, e1, rfl, ⟨_, _, rfl, rfl, rfl⟩⟩ := hK1
  obtain rfl : cs1 = #[.int .i64 a1_0, .int .i64 a1_1, .int .i64 a1_2] := by apply Array.toList_inj.1; simpa using e1
  clear e1
  clear hA0 hval0 hsz0
  refine (Go.Proofs.Yteddpdonmhiplaa.PR.main_WriteSuper A0_0 c0_0 l0_0 A0_1 c0_1 l0_1 a0_2 a0_3 a1_0 a1_1 a1_2 F0 F1 W hr0_0 hc0_0 hr0_1 hc0_1).mono fun e W' ⟨he, bel⟩ => ?_
  subst he
  exact ⟨_, rfl, _, _, _, [], _, [], hW', trodAll_mk1 (shut_bool Try.underlying4 _), (trodAll_cons_mk (Below.trod laidOut (by kernel_rfl) (of_decide_eq_true (by kernel_rfl)) k0 bel lt0) (trodAll_cons_mk (Below.trod laidOut (by kernel_rfl) (of_decide_eq_true (by kernel_rfl)) k1 bel lt1) trodAll_mk0)), rfl, bel.frame _, fun h => by cases h⟩
theorem over : Rows.fnExactWriteSuperRow.holds Try.pinned (OpenSpec.ofChange Rows.fnExactWriteSuperSpec) :=
  OpenClaim.holds_of_wide 6 Try.f6 rfl rfl rfl rfl rfl rfl rfl ⟨rfl, rfl, rfl, rfl, rfl⟩ rfl rfl rfl rfl rfl (by kernel_rfl) Try.func6 (by kernel_rfl)
    (of_decide_eq_true (by kernel_rfl)) (by unfold Func.isWrapper; first | (rw [if_pos (by decide +kernel)]; kernel_rfl) | (rw [if_neg (by decide +kernel)]; exact ⟨rfl, rfl⟩))
    (fun os started H enc _ => lifted os started H enc)
theorem proved : Rows.FnExactWriteSuperSaid := over
#print axioms proved
end Go.Proofs.Yteddpdonmhiplaa.fnExactWriteSuper
namespace Go.Proofs.Yteddpdonmhiplaa
/-- The row, under a short name, for the claim. -/
theorem fnExactWriteSuper_holds : Rows.FnExactWriteSuperSaid := fnExactWriteSuper.proved
end Go.Proofs.Yteddpdonmhiplaa
