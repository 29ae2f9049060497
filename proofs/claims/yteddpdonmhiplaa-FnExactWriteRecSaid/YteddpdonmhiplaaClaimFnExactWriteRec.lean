/- The row of the law FnExactWriteRec, out of its walk and its plain law: for every input the call returns true, and the arguments read as before. No conditions. -/
import Derived.Test.YteddpdonmhiplaaMFnExactWriteRecg
import Derived.Test.YteddpdonmhiplaaRows
import Derived.Test.YteddpdonmhiplaaOpens
import Derived.WalkKit
import Derived.ProofKit
import Derived.OpenShut
import Derived.ShutString
import Derived.ChangeOld
import Derived.Below
import Derived.SizedLaws
namespace Go.Proofs.Yteddpdonmhiplaa.fnExactWriteRec
open Go.ChangeShapes Go.WideShapes Go.ChangeAt Go.RowKit Go.Proofs.Yteddpdonmhiplaa.PR Go.Proofs.Yteddpdonmhiplaa.Opens Go.Proofs.YteddpdonmhiplaaW.PrintWords
open Go.ChangeMaps (open_string shut_string)
set_option linter.unusedVariables false
theorem own : ownKnob Try.prog.godebug = none := by kernel_rfl
theorem laidOut : laidOutB Try.prog = true := by kernel_rfl
set_option maxRecDepth 100000 in
theorem lifted (os : Os) (started : os.Started) (H : Type) (enc : TypeId × Value → H) :
    ReturnsInHanded {} Try.checked os 7 .any (Rows.fnExactWriteRecSpec.pre6 enc Try.prog Try.f7 Rows.fnExactWriteRecRow.domain false) (Rows.fnExactWriteRecSpec.post enc Try.prog Try.f7 false true false false) := by
  refine returnsInHanded_of_change_sized (C := Try.checked) own started (by kernel_rfl) Try.func7
    (ChangeSpec.witness6 (enc := enc) (C := Try.checked) false ⟨#[], #[.agg #[.slice none 0 0, .slice none 0 0, .int .i64 0, .bool false], .int .i64 0, .int .i64 0, .slice none 0 0], []⟩ 8 (by kernel_rfl) (by kernel_rfl) (by kernel_rfl) (by kernel_rfl)) ?_
  intro W base args ds gs before hval0 hW hcnd hsz0 _
  have hval : ∀ (j : Nat) t v, Try.f7.params[j]? = some t → args[j]? = some v → Value.okWide Try.prog W .any base t v := hval0
  have hW' := hW
  obtain ⟨p, q, hA0, hV, rfl, hfz, hnd⟩ := hW
  have hA : DataW.TrodAll enc Try.prog W 0 (fun _ => true) true Try.f7.params.toList args.toList ds p := hA0
  rw [Try.params7] at hA hval
  obtain ⟨v0, vs0, d0, ds0, p0, q0, hargs, rfl, rfl, h0, r0⟩ := trodAll_cons hA
  obtain ⟨v1, vs1, d1, ds1, p1, q1, rfl, rfl, rfl, h1, r1⟩ := trodAll_cons r0
  obtain ⟨v2, vs2, d2, ds2, p2, q2, rfl, rfl, rfl, h2, r2⟩ := trodAll_cons r1
  obtain ⟨v3, vs3, d3, ds3, p3, q3, rfl, rfl, rfl, h3, r3⟩ := trodAll_cons r2
  obtain ⟨rfl, rfl, rfl⟩ := trodAll_nil r3
  obtain rfl : args = #[v0, v1, v2, v3] := by cases args; simp_all
  obtain ⟨rfl, rfl⟩ := trodVars_none hV
  have k0 := h0
  have lt0 : ∀ x ∈ p0, x.block < W.heap.size := by obtain ⟨m, hm⟩ := k0; exact DataW.trod_lt m _ _ _ hm
  obtain ⟨cs0, ⟨l0_0, l0_1, a0_2, a0_3⟩, rfl, hK0, F0⟩ := Opn.agg (Opn.struct4 Try.underlying37 rfl (by kernel_rfl) (Opn.slice (d := (Kd.int .u8)) Try.underlying22 (by kernel_rfl) (Opn.int Try.underlying5)) rfl (by kernel_rfl) (Opn.slice (d := k127) Try.underlying35 (by kernel_rfl) (Opn.iso (Opn.struct2 Try.underlying127 rfl (by kernel_rfl) (Opn.int Try.underlying2) rfl (by kernel_rfl) (Opn.slice (d := (Kd.int .u8)) Try.underlying22 (by kernel_rfl) (Opn.int Try.underlying5)) (by kernel_rfl)) (fun x : S127 => (x.f0, x.f1)) (fun p => ⟨p.1, p.2⟩) (fun _ => rfl))) rfl (by kernel_rfl) (Opn.int Try.underlying2) rfl (by kernel_rfl) (Opn.bool Try.underlying4) (by kernel_rfl)) Try.underlying37 (hval 0 37 v0 rfl rfl) h0
  obtain ⟨_, _, e0, ⟨A0_0, c0_0, rfl, hc0_0, hr0_0⟩, ⟨_, _, rfl, ⟨A0_1, c0_1, rfl, hc0_1, hr0_1⟩, ⟨_, _, rfl, rfl, rfl⟩⟩⟩ := hK0
  obtain rfl : cs0 = #[.slice A0_0 l0_0.length c0_0, .slice A0_1 l0_1.length c0_1, .int .i64 a0_2, .bool a0_3] := by apply Array.toList_inj.1; simpa using e0
  clear e0
  obtain ⟨a1, rfl, rfl, rfl, F1⟩ := open_int Try.underlying2 (hval 1 2 v1 rfl rfl) h1
  obtain ⟨a2, rfl, rfl, rfl, F2⟩ := open_int Try.underlying2 (hval 2 2 v2 rfl rfl) h2
  have k3 := h3
  have lt3 : ∀ x ∈ p3, x.block < W.heap.size := by obtain ⟨m, hm⟩ := k3; exact DataW.trod_lt m _ _ _ hm
  obtain ⟨A3, l3, c3, rfl, hr3, hc3, F3⟩ := Opn.row (Opn.slice (d := (Kd.int .u8)) Try.underlying22 (by kernel_rfl) (Opn.int Try.underlying5)) Try.underlying22 (hval 3 22 v3 rfl rfl) h3
  clear hA0 hval0 hsz0
  refine (Go.Proofs.Yteddpdonmhiplaa.PR.main_WriteRec A0_0 c0_0 l0_0 A0_1 c0_1 l0_1 a0_2 a0_3 a1 a2 A3 c3 l3 F0 F1 F2 F3 W hr0_0 hc0_0 hr0_1 hc0_1 hr3 hc3).mono fun e W' ⟨he, bel⟩ => ?_
  subst he
  exact ⟨_, rfl, _, _, _, [], _, [], hW', trodAll_mk1 (shut_bool Try.underlying4 _), (trodAll_cons_mk (Below.trod laidOut (by kernel_rfl) (of_decide_eq_true (by kernel_rfl)) k0 bel lt0) (trodAll_cons_mk (shut_int Try.underlying2 F1) (trodAll_cons_mk (shut_int Try.underlying2 F2) (trodAll_cons_mk (Below.trod laidOut (by kernel_rfl) (of_decide_eq_true (by kernel_rfl)) k3 bel lt3) trodAll_mk0)))), rfl, bel.frame _, fun h => by cases h⟩
theorem over : Rows.fnExactWriteRecRow.holds Try.pinned (OpenSpec.ofChange Rows.fnExactWriteRecSpec) :=
  OpenClaim.holds_of_wide 7 Try.f7 rfl rfl rfl rfl rfl rfl rfl ⟨rfl, rfl, rfl, rfl, rfl⟩ rfl rfl rfl rfl rfl (by kernel_rfl) Try.func7 (by kernel_rfl)
    (of_decide_eq_true (by kernel_rfl)) (by unfold Func.isWrapper; first | (rw [if_pos (by decide +kernel)]; kernel_rfl) | (rw [if_neg (by decide +kernel)]; exact ⟨rfl, rfl⟩))
    (fun os started H enc _ => lifted os started H enc)
theorem proved : Rows.FnExactWriteRecSaid := over
#print axioms proved
end Go.Proofs.Yteddpdonmhiplaa.fnExactWriteRec
namespace Go.Proofs.Yteddpdonmhiplaa
/-- The row, under a short name, for the claim. -/
theorem fnExactWriteRec_holds : Rows.FnExactWriteRecSaid := fnExactWriteRec.proved
end Go.Proofs.Yteddpdonmhiplaa
