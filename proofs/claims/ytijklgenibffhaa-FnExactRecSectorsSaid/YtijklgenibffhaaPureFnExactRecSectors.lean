/- The law FnExactRecSectors answers true for every whole number. No conditions. -/
import Derived.Test.YtijklgenibffhaaPFnExactRecSectorsx1
import Derived.OpenShut
namespace Go.Proofs.Ytijklgenibffhaa.Pure
open Go.RowKit Go.Proofs.Ytijklgenibffhaa.PFnExactRecSectors Go.Proofs.YtijklgenibffhaaW.PrintWords Go.Proofs.YtijklgenibffhaaW.PrintLast

theorem FnExactRecSectors : laws_FnExactRecSectors.Pure := by
  intro a0 hw
  refine ⟨1, ?_⟩
  have hb := bounds_i64 hw
  unfold laws_FnExactRecSectors.f spec_RecSectors.f impl_RecSectors.f
  by_cases h1 : a0 < 0
  · simp [h1, spec_RecSectors.j0]
  by_cases h2 : a0 > 30000
  · simp [h1, h2, spec_RecSectors.j0]
  have h2' : ¬ 30000 < a0 := h2
  by_cases h3 : a0 = 0
  · subst h3
    decide +kernel
  · simp only [h1, h2, h3, spec_RecSectors.j0, if_false, decide_false, Bool.false_eq_true, Option.bind_some]
    have e1 : wrap64 (a0 + 48) = a0 + 48 := by unfold wrap64; omega
    have e2 : wrap64 (a0 + 48 - 1) = a0 + 47 := by unfold wrap64; omega
    rw [e1, e2]
    have e3 : (a0 + 47).tdiv 48 = (a0 + 47) / 48 := Int.tdiv_eq_ediv_of_nonneg (by omega)
    rw [e3]
    have e4 : wrap64 ((a0 + 47) / 48) = (a0 + 47) / 48 := by unfold wrap64; omega
    have e5 : mx 1 ((a0 + 47) / 48) = (a0 + 47) / 48 := by unfold mx; omega
    rw [e4, e5]
    simp

end Go.Proofs.Ytijklgenibffhaa.Pure
