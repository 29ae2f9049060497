/- The law FnExactCrc32 answers true for every slice of bytes: the program's Crc32 is the reference's. No conditions. -/
import Derived.Test.YtijklgenibffhaaPCrcx3
import Derived.Test.YtijklgenibffhaaPCrcx3
namespace Go.Proofs.Ytijklgenibffhaa.Pure
open Go.RowKit Go.Proofs.Ytijklgenibffhaa.PCrc Go.Proofs.YtijklgenibffhaaW.PrintWords Go.Proofs.YtijklgenibffhaaW.PrintLast

theorem specCrc_ev (l : List Int) (hL : l.length ≤ 281474976710656) : ∀ (d i : Nat), i + d = l.length → ∀ x, ∃ r, Ev (fun k => spec_Crc32.l0 k l x (i : Int)) r := by
  intro d
  induction d with
  | zero => exact fun i hd x => ⟨_, Ev.step (fun k => by simp only [spec_Crc32.l0]; rw [if_neg (by omega)]) (Ev.now _)⟩
  | succ d ih =>
    intro i hd x
    have inner : ∀ (e j : Nat), j + e = 8 → ∀ y, ∃ r, Ev (fun k => spec_Crc32.l1 k l y (i : Int) (j : Int)) r := by
      intro e
      induction e with
      | zero =>
        intro j hj y
        obtain ⟨r, hr⟩ := ih (i + 1) (by omega) y
        exact ⟨r, Ev.step (fun k => by simp only [spec_Crc32.l1]; rw [if_neg (by omega), show wrap64 ((i : Int) + 1) = ((i + 1 : Nat) : Int) by unfold wrap64; omega]) hr⟩
      | succ e ih2 =>
        intro j hj y
        have ew : wrap64 ((j : Int) + 1) = ((j + 1 : Nat) : Int) := by unfold wrap64; omega
        by_cases c : Int.tmod y 2 = 1
        · obtain ⟨r, hr⟩ := ih2 (j + 1) (by omega) (Go.bits .xor .u32 ((Int.tdiv y 2) % 4294967296) 3988292384)
          exact ⟨r, Ev.step (fun k => by simp only [spec_Crc32.l1]; rw [if_pos (by omega), if_pos c, ew]) hr⟩
        · obtain ⟨r, hr⟩ := ih2 (j + 1) (by omega) ((Int.tdiv y 2) % 4294967296)
          exact ⟨r, Ev.step (fun k => by simp only [spec_Crc32.l1]; rw [if_pos (by omega), if_neg c, ew]) hr⟩
    obtain ⟨r, hr⟩ := inner 8 0 (by omega) (Go.bits .xor .u32 x ((rd l i) % 4294967296))
    exact ⟨r, Ev.step (fun k => by simp only [spec_Crc32.l0]; rw [if_pos (by omega), if_pos (by omega)]; rfl) hr⟩
theorem FnExactCrc32 : laws_FnExactCrc32.Pure := by
  intro l _ hb _
  have hL : l.length ≤ 281474976710656 := by omega
  by_cases c : (l.length : Int) > 1048576
  · exact ⟨0, by unfold laws_FnExactCrc32.f; rw [if_pos c]⟩
  obtain ⟨r, hr⟩ := specCrc_ev l hL l.length 0 (by omega) 4294967295
  have hc : Ev (fun k => spec_Crc32.f k l) r := hr
  have h : Ev (fun k => laws_FnExactCrc32.f k l) true := by
    refine Ev.congr (fun k => by unfold laws_FnExactCrc32.f; rw [if_neg c]) ?_
    refine Ev.bind (toByteS_ev l hL) (Ev.bind hc (Ev.bind (toByteS_ev l hL) (Ev.bind hc ?_)))
    refine Ev.congr (fun k => by rw [if_pos rfl]) (Ev.bind (toByteS_ev l hL) (Ev.bind (eqByteS_ev l hL) ?_))
    exact Ev.congr (fun k => by rw [if_pos rfl]) (Ev.now _)
  exact h.rounds

end Go.Proofs.Ytijklgenibffhaa.Pure
