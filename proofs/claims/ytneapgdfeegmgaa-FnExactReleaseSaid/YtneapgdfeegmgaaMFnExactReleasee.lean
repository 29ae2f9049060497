-- Made by this session's programs out of the translation and of its own texts.
import Derived.Test.YtneapgdfeegmgaaMFnExactReleased
namespace Go.Proofs.Ytneapgdfeegmgaa.PI
open Go.RowKit Go.Proofs.YtneapgdfeegmgaaW.PrintWords Go.Proofs.YtneapgdfeegmgaaW.PrintLast Go.Proofs.YtneapgdfeegmgaaW.PrintMore
attribute [local go_sem] max2_int min2_int max_two min_two max_three min_three max_four min_four   -- for this text's walks alone
set_option linter.unusedVariables false
set_option linter.unusedSimpArgs false

/-! ### impl_release2: a text by hand -/
-- import Derived.Deep.RegionLaw
theorem sRelease_no {next : Int} {l : List S51} {id : Int} (h : vT next l = false ∨ rRes l id = none) : sRelease next l id = (false, 0, next, l) := by
  unfold sRelease
  rcases h with h | h
  · rw [h]; rfl
  · rw [h]; split <;> rfl
theorem sRelease_yes {next : Int} {l l' : List S51} {id : Int} (hv : vT next l = true) (h : rRes l id = some l') : sRelease next l id = (true, id, next, l') := by
  unfold sRelease
  rw [if_pos hv, h]
set_option maxHeartbeats 4000000 in
set_option maxRecDepth 100000 in
theorem releaseI_any (next : Int) (A : Option Addr) (c : Nat) (l : List S51) (id : Int) (w : World) (hr : Kd.C k51 w A l.length l) (hc : l.length ≤ c) (h : l.length < 4398046511104) :
    Calls Try.prog 25 #[.agg #[.int .i64 next, .slice A l.length c], .int .i64 id] w (ResPost (sRelease next l id) w) := by
  have hu29 := Try.underlying29
  have hu38 := Try.underlying38
  have HR := Aside0.mk hr
  have HC := Aside0.mk hc
  have HL := Aside0.mk h
  have HB := Aside0.mk (Below.refl w.heap.size w)
  clear hr hc h
  go_enter Try.func25, Try.ntmps25
  go_wp2_with fail
  have K1 := Aside0.mk (blk_alloc (blk_new w (.cells #[.int .i64 next, .slice A l.length c] 29)) (.cells #[.bool false, .int .i64 0, .int .i64 0, .slice none 0 0] 38))
  have K2 := Aside0.mk (dblk_new2 w (.cells #[.int .i64 next, .slice A l.length c] 29) (.cells #[.bool false, .int .i64 0, .int .i64 0, .slice none 0 0] 38))
  have HRA := Aside0.mk (Kd.C_alloc (Kd.C_alloc HR.out (.cells #[.int .i64 next, .slice A l.length c] 29)) (.cells #[.bool false, .int .i64 0, .int .i64 0, .slice none 0 0] 38))
  have HBA := Aside0.mk (below_alloc (below_alloc HB.out (.cells #[.int .i64 next, .slice A l.length c] 29)) (.cells #[.bool false, .int .i64 0, .int .i64 0, .slice none 0 0] 38))
  refine (book_calls next A c l _ HRA.out HC.out).mono ?_
  generalize (w.alloc (.cells #[.int .i64 next, .slice A l.length c] 29)).alloc (.cells #[.bool false, .int .i64 0, .int .i64 0, .slice none 0 0] 38) = w1 at *
  rintro e w2 ⟨hb, hcase⟩
  have K1b := Aside0.mk (blk_below K1.out hb)
  have K2b := Aside0.mk (blk_below K2.out hb)
  have HRb := Aside0.mk (Kd.C_below HRA.out hb)
  have HS1 := Aside0.mk (show w.heap.size + 1 < w1.heap.size from blk_lt K2.out)
  have HBb := Aside0.mk (below_then HBA.out (by have := HS1.out; omega) hb)
  have x0 : w2.cell? ⟨w.heap.size, 0, none⟩ = some (.int .i64 next) := (blk_cell K1b.out 0).trans rfl
  have x1 : w2.cell? ⟨w.heap.size, 1, none⟩ = some (.slice A l.length c) := (blk_cell K1b.out 1).trans rfl
  rcases hcase with ⟨hv, rfl⟩ | ⟨hv, bk, m1, m2, E, rfl, hE, hbk⟩
  · have HV := Aside0.mk (sRelease_no (id := id) (Or.inl hv))
    clear hv hb
    go_wp2_with fail
    refine (dclone_any next A c l _ HRb.out HC.out HL.out).mono ?_
    rintro e w5 ⟨A', c', rfl, hR, hB⟩
    have K5 := Aside0.mk (blk_below K2b.out hB)
    have hle : w.heap.size ≤ w2.heap.size := by have := blk_lt K2b.out; omega
    have HR5 := Aside0.mk (Kd.R_lower hR hle)
    have HB5 := Aside0.mk (below_then HBb.out hle hB)
    clear hR hB hle x0 x1
    obtain ⟨z0, z1, z2, z3, y0, y1, y2, y3⟩ := dblk_cells4 K5.out
    have yl := blk_lt K5.out
    go_wp2_with fail
    refine bodyPost_ret (results_cell_row rfl _ _ (w.heap.size + 1) 38 #[.bool false, .int .i64 0, .int .i64 next, .slice A' l.length c'] (0, 0) _ rfl (dblk_set4 K5.out) Try.underlying38 rfl (by kernel_rfl)) rfl ?_
    rw [HV.out]
    exact ⟨_, rfl, res_row HR5.out K5.out, res_below HB5.out (by omega) _ _ _ _⟩
  · have HBK := Aside0.mk hbk
    have HE := Aside0.mk hE
    have HVT := Aside0.mk hv
    clear hb hE hv hbk
    go_wp2_with fail
    refine (release_any HBK.out HE.out HVT.out id).mono ?_
    rintro e w3 hpost
    rcases hpost with ⟨hn, rfl, hw⟩ | ⟨l', E', hi, rfl, hE', hbk', hB3⟩
    · subst hw
      have HV := Aside0.mk (sRelease_no (next := next) (Or.inr hn))
      clear hn
      go_wp2_with fail
      refine (dclone_any next A c l _ HRb.out HC.out HL.out).mono ?_
      rintro e w5 ⟨A', c', rfl, hR, hB⟩
      have K5 := Aside0.mk (blk_below K2b.out hB)
      have hle : w.heap.size ≤ w3.heap.size := by have := blk_lt K2b.out; omega
      have HR5 := Aside0.mk (Kd.R_lower hR hle)
      have HB5 := Aside0.mk (below_then HBb.out hle hB)
      clear hR hB hle x0 x1
      obtain ⟨z0, z1, z2, z3, y0, y1, y2, y3⟩ := dblk_cells4 K5.out
      have yl := blk_lt K5.out
      go_wp2_with fail
      refine bodyPost_ret (results_cell_row rfl _ _ (w.heap.size + 1) 38 #[.bool false, .int .i64 0, .int .i64 next, .slice A' l.length c'] (0, 0) _ rfl (dblk_set4 K5.out) Try.underlying38 rfl (by kernel_rfl)) rfl ?_
      rw [HV.out]
      exact ⟨_, rfl, res_row HR5.out K5.out, res_below HB5.out (by omega) _ _ _ _⟩
    · have HV := Aside0.mk (sRelease_yes HVT.out hi)
      have HLP := Aside0.mk (rRes_asc HVT.out hi)
      have hF := rRes_facts HVT.out hi
      have HF := Aside0.mk (show (E'.map (fun p => kS p.2)).Nodup ∧ E'.length ≤ 1200 from ⟨by have := hF.1; rw [← hE', List.map_map] at this; exact this, by have := hF.2; rw [← hE', List.length_map] at this; exact this⟩)
      have HE3 := Aside0.mk hE'
      have HBK3 := Aside0.mk hbk'
      have K2c := Aside0.mk ((hB3.block _ HS1.out).trans K2b.out)
      have HBc := Aside0.mk (HBb.out.trans ⟨hB3.os, hB3.tape, hB3.output, hB3.size, fun i hi => hB3.block i (by have := HS1.out; omega)⟩)
      clear hF hE' hbk' hB3 hi x0 x1
      go_wp2_with fail
      refine (dict_any HBK3.out HF.out.1 HF.out.2).mono ?_
      rintro e w5 ⟨A', c', ys, rfl, hp, ha, hR, hB⟩
      rw [HE3.out] at hp
      obtain rfl : ys = l' := asc_unique hp ha HLP.out
      have K5 := Aside0.mk (blk_below K2c.out hB)
      have hle : w.heap.size ≤ w3.heap.size := by have := blk_lt K2c.out; omega
      have HR5 := Aside0.mk (Kd.R_lower hR hle)
      have HB5 := Aside0.mk (below_then HBc.out hle hB)
      clear hR hB hle hp ha
      obtain ⟨z0, z1, z2, z3, y0, y1, y2, y3⟩ := dblk_cells4 K5.out
      have yl := blk_lt K5.out
      go_wp2_with fail
      refine bodyPost_ret (results_cell_row rfl _ _ (w.heap.size + 1) 38 #[.bool true, .int .i64 id, .int .i64 next, .slice A' ys.length c'] (0, 0) _ rfl (dblk_set4 K5.out) Try.underlying38 rfl (by kernel_rfl)) rfl ?_
      rw [HV.out]
      exact ⟨_, rfl, res_row HR5.out K5.out, res_below HB5.out (by omega) _ _ _ _⟩

/-! ### impl_Release: function 25, proved by hand -/
theorem impl_Release.calls (k : Nat) (a0_0 : Int) (A0_1 : Option Addr) (c0_1 : Nat) (l0_1 : List (S51)) (a1 : Int) (r1 : Bool) (r2 : Int) (r3 : Int) (r4 : List (S51)) (w : World) (hr0_1 : Kd.C k51 w A0_1 l0_1.length l0_1) (hc0_1 : l0_1.length ≤ c0_1) (h : spec_Release.f k a0_0 l0_1 a1 = some (r1, r2, r3, r4)) :
    Calls Try.prog 25 #[.agg #[.int .i64 a0_0, .slice A0_1 l0_1.length c0_1], .int .i64 a1] w fun e w' => ∃ v3_ : Value, e = .returned (.agg #[.bool r1, .int .i64 r2, .int .i64 r3, v3_]) ∧ Kd.R k51 51 w' w.heap.size (fun _ => True) v3_ r4 ∧ Below w.heap.size w w' := by
  obtain ⟨hL, hr⟩ := specRelease_h h
  refine (releaseI_any a0_0 A0_1 c0_1 l0_1 a1 w hr0_1 hc0_1 hL).mono ?_
  rintro e w' ⟨v, he, hR, hB⟩
  rw [← hr] at he hR
  exact ⟨v, he, hR, hB⟩
end Go.Proofs.Ytneapgdfeegmgaa.PI
