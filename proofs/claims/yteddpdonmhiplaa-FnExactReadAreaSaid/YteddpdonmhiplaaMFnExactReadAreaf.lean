-- Made by this session's programs out of the translation and of its own texts.
import Derived.Test.YteddpdonmhiplaaMFnExactReadAreae
namespace Go.Proofs.Yteddpdonmhiplaa.PR
open Go.RowKit Go.Proofs.YteddpdonmhiplaaW.PrintWords Go.Proofs.YteddpdonmhiplaaW.PrintLast Go.Proofs.YteddpdonmhiplaaW.PrintMore
attribute [local go_sem] max2_int min2_int max_two min_two max_three min_three max_four min_four   -- for this text's walks alone
set_option linter.unusedVariables false
set_option linter.unusedSimpArgs false

/-! ### zL_recA: a text by hand -/
/-- The sum of 60 bytes. -/
noncomputable def crcF : List Int → Int := Classical.choose crc_total
theorem crcF_ok : CrcOk crcF := Classical.choose_spec crc_total
/-- The answer of ReadRec. -/
noncomputable def rrOf (l0 : List Int) (l1 : List S79) (a2 p s : Int) : Bool × List Int × Int := mRR (pcOf crcF s) l0 l1 a2 p s
def asz (l0 : List Int) : Int := (((l0.length / 64 : Nat) : Int) - 2) / 2
/-- What of an area is read. -/
def raF (RR : Int → Int → Bool × List Int × Int) (b a : Int) : Nat → Bool → List S111 → Int → Int → Bool × List S111 × Int × Int
 | 0, ok, ps, u, nx => (ok, ps, u, nx)
 | n + 1, ok, ps, u, nx => if gN nx = true ∧ (RR (b + u) nx).1 = true ∧ ¬ u + (RR (b + u) nx).2.2 > a then raF RR b a n true (ps ++ [⟨(RR (b + u) nx).2.1⟩]) (u + (RR (b + u) nx).2.2) (nx + 1) else (ok, ps, u, nx)
noncomputable def raAll (l0 : List Int) (l1 : List S79) (a2 ar fs : Int) : Bool × List S111 × Int × Int := raF (rrOf l0 l1 a2) (2 + ar * asz l0) (asz l0) ((asz l0).toNat + 1) false [] 0 fs
noncomputable def mRA (l0 : List Int) (l1 : List S79) (a2 ar fs : Int) : Bool × List S111 × Int × Int :=
 if (vD l0 l1 a2 && decide (0 ≤ ar) && decide (ar ≤ 1) && gN fs) = true then (if (raAll l0 l1 a2 ar fs).1 = true then raAll l0 l1 a2 ar fs else (false, [], 0, 0)) else (false, [], 0, 0)
theorem asz_bd {l0 : List Int} {l1 : List S79} {a2 : Int} (h : vD l0 l1 a2 = true) : 7 ≤ asz l0 ∧ asz l0 ≤ 511 ∧ ((l0.length / 64 : Nat) : Int) ≤ 1024 ∧ 16 ≤ ((l0.length / 64 : Nat) : Int) := by
 obtain ⟨f1, f2, f3, _⟩ := vD_facts h
 unfold asz
 omega
theorem area_i {l0 : List Int} {l1 : List S79} {a2 : Int} (a3 : Bool) (hL : l0.length ≤ 1048576) (h : vD l0 l1 a2 = true) : impl_Disk_area.f l0 l1 a2 a3 = some (asz l0) := by
 have hb := asz_bd h
 unfold impl_Disk_area.f impl_Disk_sectors.f
 rw [sectors_at l0 hL, Option.bind_some]
 unfold asz
 generalize ((l0.length / 64 : Nat) : Int) = s at *
 rw [show wrap64 (s - 2) = s - 2 from by unfold wrap64; omega, Int.tdiv_eq_ediv_of_nonneg (by omega), show wrap64 ((s - 2) / 2) = (s - 2) / 2 from by unfold wrap64; omega]
theorem area_s {l0 : List Int} {l1 : List S79} {a2 : Int} (a3 : Bool) (hL : l0.length ≤ 1048576) (h : vD l0 l1 a2 = true) : spec_l2AreaSize.f l0 l1 a2 a3 = some (asz l0) := by
 have := area_i a3 hL h
 unfold impl_Disk_area.f impl_Disk_sectors.f at this
 unfold spec_l2AreaSize.f spec_l1Sectors.f
 exact this
theorem begin_i {l0 : List Int} {l1 : List S79} {a2 : Int} (a3 : Bool) (hL : l0.length ≤ 1048576) (h : vD l0 l1 a2 = true) (ar : Int) (h0 : 0 ≤ ar) (h1 : ar ≤ 1) : impl_Disk_begin.f l0 l1 a2 a3 ar = some (2 + ar * asz l0) := by
 have hb := asz_bd h
 unfold impl_Disk_begin.f
 rw [area_i a3 hL h, Option.bind_some]
 have e : ar = 0 ∨ ar = 1 := by omega
 rcases e with rfl | rfl
 ·simp [wrap64]
 ·rw [show wrap64 (1 * asz l0) = asz l0 from by unfold wrap64; omega, show wrap64 (2 + asz l0) = 2 + asz l0 from by unfold wrap64; omega, Int.one_mul]
theorem begin_s {l0 : List Int} {l1 : List S79} {a2 : Int} (a3 : Bool) (hL : l0.length ≤ 1048576) (h : vD l0 l1 a2 = true) (ar : Int) (h0 : 0 ≤ ar) (h1 : ar ≤ 1) : spec_l2AreaFrom.f l0 l1 a2 a3 ar = some (2 + ar * asz l0) := by
 have := begin_i a3 hL h ar h0 h1
 unfold impl_Disk_begin.f at this
 unfold spec_l2AreaFrom.f
 rw [area_s a3 hL h]
 rw [area_i a3 hL h] at this
 exact this
theorem rr_bd {l0 : List Int} {l1 : List S79} {a2 : Int} (hok : RsOk l0 l1) (p s : Int) (h : (rrOf l0 l1 a2 p s).1 = true) : 1 ≤ (rrOf l0 l1 a2 p s).2.2 ∧ (rrOf l0 l1 a2 p s).2.2 < 65536 := by
 unfold rrOf mRR at h ⊢
 split
 case isFalse hh => rw [if_neg hh] at h; cases h
 next hh =>
 rw [if_pos hh] at h
 simp only [Bool.and_eq_true] at hh
 obtain ⟨f1, f2, f3, f4, f5, f6, f7⟩ := vD_facts hh.1.1
 have hin := hh.2
 unfold inD at hin
 simp at hin
 have hl : (dRd l0 l1 p).length = 64 := dRd_len l0 l1 p (by omega) (by omega) f3 (fun x hx => (f7 x hx).2.2)
 have hb := (iget2 _ (dRd_bytes l0 l1 p hok.2.2.1 hok.2.2.2) hl 6 (by omega)).2
 split
 case isTrue h1 => rw [if_pos h1] at h; cases h
 next h1 =>
 rw [if_neg h1] at h
 split
 next h2 => rw [h2] at h; cases h
 next q h2 =>
 rw [h2] at h
 dsimp only at h
 split
 case isTrue h3 => rw [if_pos h3] at h; cases h
 case isFalse h3 => dsimp only; omega
/-- ReadRec of both programs. -/
theorem rr_impl (A0 : Option Addr) (c0 : Nat) (l0 : List Int) (A1 : Option Addr) (c1 : Nat) (l1 : List S79) (a2 : Int) (a3 : Bool) (hok : RsOk l0 l1) (p s : Int) (w : World) (hr0 : Kd.C (Kd.int .u8) w A0 l0.length l0) (hc0 : l0.length ≤ c0) (hr1 : Kd.C k79 w A1 l1.length l1) (hc1 : l1.length ≤ c1) :
  Calls Try.prog 26 #[.agg #[.slice A0 l0.length c0, .slice A1 l1.length c1, .int .i64 a2, .bool a3], .int .i64 p, .int .i64 s] w fun e w' => ∃ v : Value, e = .returned (.agg #[.bool (rrOf l0 l1 a2 p s).1, v, .int .i64 (rrOf l0 l1 a2 p s).2.2]) ∧ Kd.R (Kd.int .u8) 5 w' w.heap.size (fun _ => True) v (rrOf l0 l1 a2 p s).2.1 ∧ Below w.heap.size w w' := by
 have hk : ∃ kc, gN s = true → ∀ i : Nat, i < 65536 → (cutN (dRd l0 l1 (p + i))).length ≤ 48 → cPiece kc s i (getN (dRd l0 l1 p) 6) (cutN (dRd l0 l1 (p + i))) = some (pcOf crcF s i (getN (dRd l0 l1 p) 6) (cutN (dRd l0 l1 (p + i)))) := by
  by_cases cg : gN s = true
  ·obtain ⟨kc, hkc⟩ := rounds_all (F := fun i kc => cPiece kc s i (getN (dRd l0 l1 p) 6) (if (cutN (dRd l0 l1 (p + i))).length ≤ 48 then cutN (dRd l0 l1 (p + i)) else [])) (v := fun i => pcOf crcF s i (getN (dRd l0 l1 p) 6) (if (cutN (dRd l0 l1 (p + i))).length ≤ 48 then cutN (dRd l0 l1 (p + i)) else [])) 65536 (fun i hi => cPiece_ev crcF_ok s cg i _ _ (by
    split
    ·assumption
    ·simp))
   refine ⟨kc, fun _ i hi hl => ?_⟩
   have := hkc kc i (Nat.le_refl _) hi
   rw [if_pos hl] at this
   exact this
  ·exact ⟨0, fun h => absurd h cg⟩
 obtain ⟨kc, hkc⟩ := hk
 exact impl_ReadRec_any kc (pcOf crcF s) A0 c0 l0 A1 c1 l1 a2 a3 p s w hr0 hc0 hr1 hc1 hok hkc
theorem rr_spec (A0 : Option Addr) (c0 : Nat) (l0 : List Int) (A1 : Option Addr) (c1 : Nat) (l1 : List S79) (a2 : Int) (a3 : Bool) (hok : RsOk l0 l1) (p s : Int) (w : World) (hr0 : Kd.C (Kd.int .u8) w A0 l0.length l0) (hc0 : l0.length ≤ c0) (hr1 : Kd.C k79 w A1 l1.length l1) (hc1 : l1.length ≤ c1) :
  Calls Try.prog 25 #[.agg #[.slice A0 l0.length c0, .slice A1 l1.length c1, .int .i64 a2, .bool a3], .int .i64 p, .int .i64 s] w fun e w' => ∃ v : Value, e = .returned (.agg #[.bool (rrOf l0 l1 a2 p s).1, v, .int .i64 (rrOf l0 l1 a2 p s).2.2]) ∧ Kd.R (Kd.int .u8) 5 w' w.heap.size (fun _ => True) v (rrOf l0 l1 a2 p s).2.1 ∧ Below w.heap.size w w' := by
 obtain ⟨k, hk⟩ := (specRR_ev crcF_ok l0 l1 a2 a3 p s hok).rounds
 exact spec_ReadRec.calls k A0 c0 l0 A1 c1 l1 a2 a3 p s _ _ _ w hr0 hc0 hr1 hc1 hk
/-- The walk's state: the disk's box, the result's, out's; the payloads. -/
structure AS (w W : World) (g7 : Nat) (dc : Array Value) (ok : Bool) (v : Value) (u nx : Int) (ps : List S111) : Prop where
 d : W.heap[w.heap.size]? = some (.cells dc 25 (0, 0))
 r : W.heap[w.heap.size + 1]? = some (.cells #[.bool false, .slice none 0 0, .int .i64 0, .int .i64 0] 65 (0, 0))
 o : W.heap[g7]? = some (.cells #[.bool ok, v, .int .i64 u, .int .i64 nx] 65 (0, 0))
 s : Kd.S k111 111 W w.heap.size (fun _ => True) v ps
 b : Below w.heap.size w W
 l : w.heap.size + 1 < g7
structure AR (w W : World) (g7 : Nat) (dc : Array Value) (ok : Bool) (v : Value) (u nx : Int) (ps : List S111) (vr : Value) (rp : List Int) : Prop where
 d : W.heap[w.heap.size]? = some (.cells dc 25 (0, 0))
 r : W.heap[w.heap.size + 1]? = some (.cells #[.bool false, .slice none 0 0, .int .i64 0, .int .i64 0] 65 (0, 0))
 o : W.heap[g7]? = some (.cells #[.bool ok, v, .int .i64 u, .int .i64 nx] 65 (0, 0))
 s : Kd.S k111 111 W w.heap.size (fun k => some k ≠ vr.ownBlock) v ps
 p : Kd.R (Kd.int .u8) 5 W w.heap.size (fun _ => True) vr rp
 b : Below w.heap.size w W
 l : w.heap.size + 1 < g7
section
variable {w W W' : World} {g7 g8 : Nat} {dc : Array Value} {ok rok : Bool} {v vr : Value} {u nx rs : Int} {ps : List S111} {rp : List Int}
theorem AS.below (h : AS w W g7 dc ok v u nx ps) (hb : Below W.heap.size W W') : AS w W' g7 dc ok v u nx ps :=
 ⟨blk_below h.d hb, blk_below h.r hb, blk_below h.o hb, Kd.S_below h.s hb, below_step h.b hb, h.l⟩
theorem AR.below (h : AR w W g7 dc ok v u nx ps vr rp) (hb : Below W.heap.size W W') : AR w W' g7 dc ok v u nx ps vr rp :=
 ⟨blk_below h.d hb, blk_below h.r hb, blk_below h.o hb, Kd.S_below h.s hb, Kd.R_below h.p hb, below_step h.b hb, h.l⟩
theorem AS.record (h : AS w W g7 dc ok v u nx ps) (hp : Kd.R (Kd.int .u8) 5 W' W.heap.size (fun _ => True) vr rp) (hb : Below W.heap.size W W') : AR w W' g7 dc ok v u nx ps vr rp :=
 ⟨blk_below h.d hb, blk_below h.r hb, blk_below h.o hb, Kd.S_mono (Kd.S_elder' h.s (Kd.R_base hp) hb) (fun _ hk => hk.2), Kd.R_lower hp h.b.size, below_step h.b hb, h.l⟩
theorem AR.forget (h : AR w W g7 dc ok v u nx ps vr rp) : AS w W g7 dc ok v u nx ps := ⟨h.d, h.r, h.o, Kd.S_mono h.s (fun _ _ => trivial), h.b, h.l⟩
theorem blk_dif {g1 g2 : Nat} {cs1 cs2 : Array Value} {t1 t2 : TypeId} (h1 : W.heap[g1]? = some (.cells cs1 t1 (0, 0))) (h2 : W.heap[g2]? = some (.cells cs2 t2 (0, 0))) (ht : t1 ≠ t2) : g1 ≠ g2 := by
 intro he
 subst he
 rw [h1] at h2
 injection h2 with h2
 injection h2 with _ h2 _
 exact ht h2
theorem AR.set8 (h : AR w W g7 dc ok v u nx ps vr rp) {cs : Array Value} (h8 : W.heap[g8]? = some (.cells cs 49 (0, 0))) (hl : w.heap.size ≤ g8) (j : Nat) (x : Value) : AR w (W.setCell ⟨g8, j, none⟩ x) g7 dc ok v u nx ps vr rp :=
 ⟨(Below.heap_setCell _ ⟨g8, j, none⟩ _ _ (blk_dif h.d h8 (by decide))).trans h.d, (Below.heap_setCell _ ⟨g8, j, none⟩ _ _ (blk_dif h.r h8 (by decide))).trans h.r, (Below.heap_setCell _ ⟨g8, j, none⟩ _ _ (blk_dif h.o h8 (by decide))).trans h.o,
  Kd.S_set h.s h8 (by decide) j x, Kd.R_set h.p h8 (by decide) j x, below_set h.b hl, h.l⟩
theorem AR.store (h : AR w W g7 dc ok v u nx ps vr rp) (h8 : W.heap[g8]? = some (.cells #[.bool false, .slice none 0 0, .int .i64 0] 49 (0, 0))) (hl : w.heap.size ≤ g8) :
  AR w (((W.setCell ⟨g8, 0, none⟩ (.bool rok)).setCell ⟨g8, 1, none⟩ vr).setCell ⟨g8, 2, none⟩ (.int .i64 rs)) g7 dc ok v u nx ps vr rp ∧ (((W.setCell ⟨g8, 0, none⟩ (.bool rok)).setCell ⟨g8, 1, none⟩ vr).setCell ⟨g8, 2, none⟩ (.int .i64 rs)).heap[g8]? = some (.cells #[.bool rok, vr, .int .i64 rs] 49 (0, 0)) := by
 have b1 := blk_put (cs' := #[.bool rok, .slice none 0 0, .int .i64 0]) h8 0 (.bool rok) rfl
 have b2 := blk_put (cs' := #[.bool rok, vr, .int .i64 0]) b1 1 vr rfl
 exact ⟨((h.set8 h8 hl 0 _).set8 b1 hl 1 _).set8 b2 hl 2 _, blk_put b2 2 _ rfl⟩
/-- Out's first cell set. -/
theorem AR.true (h : AR w W g7 dc ok v u nx ps vr rp) {cs : Array Value} (h8 : W.heap[g8]? = some (.cells cs 49 (0, 0))) : AR w (W.setCell ⟨g7, 0, none⟩ (.bool true)) g7 dc true v u nx ps vr rp ∧ (W.setCell ⟨g7, 0, none⟩ (.bool true)).heap[g8]? = some (.cells cs 49 (0, 0)) :=
 have hl := h.l
 ⟨⟨(Below.heap_setCell _ ⟨g7, 0, none⟩ _ _ (by show w.heap.size ≠ g7; omega)).trans h.d, (Below.heap_setCell _ ⟨g7, 0, none⟩ _ _ (by show w.heap.size + 1 ≠ g7; omega)).trans h.r, blk_put h.o 0 _ rfl,
  Kd.S_set h.s h.o (by decide) 0 _, Kd.R_set h.p h.o (by decide) 0 _, below_set h.b (by omega), hl⟩, (Below.heap_setCell _ ⟨g7, 0, none⟩ _ _ (blk_dif h8 h.o (by decide))).trans h8⟩
theorem AR.apart (h : AR w W g7 dc ok v u nx ps vr rp) : Kd.R (Kd.int .u8) 5 W w.heap.size (fun k => True ∧ some k ≠ v.ownBlock) vr rp := Kd.R_mono (Kd.R_apart' h.p (Kd.S_typed h.s) (by decide)) (fun k hk => ⟨trivial, hk.2⟩)
/-- Behind the append and the stores: the state of the next round. -/
theorem AS.next {v' : Value} {ps' : List S111} {u' nx' : Int} (hd : W.heap[w.heap.size]? = some (.cells dc 25 (0, 0))) (hr : W.heap[w.heap.size + 1]? = some (.cells #[.bool false, .slice none 0 0, .int .i64 0, .int .i64 0] 65 (0, 0)))
  (ho : W.heap[g7]? = some (.cells #[.bool ok, v, .int .i64 u, .int .i64 nx] 65 (0, 0))) (hs : Kd.S k111 111 W w.heap.size (fun _ => True) v' ps') (hb : Below w.heap.size w W) (hl : w.heap.size + 1 < g7) :
  AS w (((W.setCell ⟨g7, 1, none⟩ v').setCell ⟨g7, 2, none⟩ (.int .i64 u')).setCell ⟨g7, 3, none⟩ (.int .i64 nx')) g7 dc ok v' u' nx' ps' := by
 have b1 := blk_put (cs' := #[.bool ok, v', .int .i64 u, .int .i64 nx]) ho 1 v' rfl
 have b2 := blk_put (cs' := #[.bool ok, v', .int .i64 u', .int .i64 nx]) b1 2 (.int .i64 u') rfl
 have b3 := blk_put (cs' := #[.bool ok, v', .int .i64 u', .int .i64 nx']) b2 3 (.int .i64 nx') rfl
 have f : ∀ g : Nat, g ≠ g7 → (((W.setCell ⟨g7, 1, none⟩ v').setCell ⟨g7, 2, none⟩ (.int .i64 u')).setCell ⟨g7, 3, none⟩ (.int .i64 nx')).heap[g]? = W.heap[g]? := fun g hg =>
  (Below.heap_setCell _ ⟨g7, 3, none⟩ _ _ hg).trans ((Below.heap_setCell _ ⟨g7, 2, none⟩ _ _ hg).trans (Below.heap_setCell _ ⟨g7, 1, none⟩ _ _ hg))
 exact ⟨(f _ (by omega)).trans hd, (f _ (by omega)).trans hr, b3, Kd.S_set (Kd.S_set (Kd.S_set hs ho (by decide) 1 _) b1 (by decide) 2 _) b2 (by decide) 3 _, below_set (below_set (below_set hb (by omega)) (by omega)) (by omega), hl⟩
/-- The result written: nothing. -/
theorem ra_zero {z : Bool × List S111 × Int × Int} (em : z = (false, [], 0, 0)) (hB : Below w.heap.size w W) :
  ∃ v, Ending.returned (.agg #[.bool false, .slice none 0 0, .int .i64 0, .int .i64 0]) = Ending.returned (.agg #[.bool z.1, v, .int .i64 z.2.2.1, .int .i64 z.2.2.2]) ∧ Kd.S k111 111 ((((W.setCell ⟨w.heap.size + 1, 0, none⟩ (.bool false)).setCell ⟨w.heap.size + 1, 1, none⟩ (.slice none 0 0)).setCell ⟨w.heap.size + 1, 2, none⟩ (.int .i64 0)).setCell ⟨w.heap.size + 1, 3, none⟩ (.int .i64 0)) w.heap.size (fun _ => True) v z.2.1 ∧
   Below w.heap.size w ((((W.setCell ⟨w.heap.size + 1, 0, none⟩ (.bool false)).setCell ⟨w.heap.size + 1, 1, none⟩ (.slice none 0 0)).setCell ⟨w.heap.size + 1, 2, none⟩ (.int .i64 0)).setCell ⟨w.heap.size + 1, 3, none⟩ (.int .i64 0)) := by
 rw [em]
 exact ⟨_, rfl, Kd.S_nil _ _ _ _ _, below_set (below_set (below_set (below_set hB (Nat.le_succ _)) (Nat.le_succ _)) (Nat.le_succ _)) (Nat.le_succ _)⟩
end
noncomputable def m_ReadArea.f (_k : Nat) (l0 : List Int) (l1 : List S79) (a2 : Int) (_a3 : Bool) (ar fs : Int) : Option (Bool × List S111 × Int × Int) :=
 if l0.length ≤ 1048576 ∧ l1.length ≤ 1048576 ∧ l1.all (fun x => decide (x.f1.length ≤ 1048576) && x.f1.all (fun y => decide (0 ≤ y) && decide (y < 256))) = true ∧ l0.all (fun y => decide (0 ≤ y) && decide (y < 256)) = true then some (mRA l0 l1 a2 ar fs) else none

/-! ### spec_ReadArea: function 40 -/
mutual
def spec_ReadArea.j0 : Nat → Int → Int → Bool → List Int → List (S79) → Int → Bool → Option (Bool × (List (S111)) × Int × Int)
 | 0, _, _, _, _, _, _, _ => none
 | k + 1, x1, x2, x24, x983000, x983001, x983002, x983003 => if x24 = true then (some (false, ([] : List (S111)), 0, 0)) else (spec_ReadArea.l0 k x1 x983000 x983001 x983002 x983003 false ([] : List (S111)) 0 x2)
def spec_ReadArea.l0 : Nat → Int → List Int → List (S79) → Int → Bool → Bool → List (S111) → Int → Int → Option (Bool × (List (S111)) × Int × Int)
 | 0, _, _, _, _, _, _, _, _, _ => none
 | k + 1, x1, x983000, x983001, x983002, x983003, x987000, x987001, x987002, x987003 => (spec_l2Number.f x987003).bind fun t987 => (if t987 = true then ((spec_l2AreaSize.f x983000 x983001 x983002 x983003).bind fun t988 => (spec_ReadArea.j2 k x1 (decide (x987002 < t988)) x983000 x983001 x983002 x983003 x987000 x987001 x987002 x987003)) else (spec_ReadArea.j2 k x1 false x983000 x983001 x983002 x983003 x987000 x987001 x987002 x987003))
def spec_ReadArea.j2 : Nat → Int → Bool → List Int → List (S79) → Int → Bool → Bool → List (S111) → Int → Int → Option (Bool × (List (S111)) × Int × Int)
 | 0, _, _, _, _, _, _, _, _, _, _ => none
 | k + 1, x1, x37, x983000, x983001, x983002, x983003, x987000, x987001, x987002, x987003 => if x37 = true then ((spec_l2AreaFrom.f x983000 x983001 x983002 x983003 x1).bind fun t989 => ((spec_ReadRec.f k x983000 x983001 x983002 x983003 (wrap64 (t989 + x987002)) x987003).bind fun bt990 => (if bt990.1 = true then ((spec_l2AreaSize.f x983000 x983001 x983002 x983003).bind fun t996 => (if (wrap64 (x987002 + bt990.2.2)) > t996 then (if x987000 = true then (some (x987000, x987001, x987002, x987003)) else (some (false, ([] : List (S111)), 0, 0))) else (if x987001.length < 5864062014805 then (spec_ReadArea.l0 k x1 x983000 x983001 x983002 x983003 true (x987001 ++ [(⟨bt990.2.1⟩ : S111)]) (wrap64 (x987002 + bt990.2.2)) (wrap64 (x987003 + 1))) else (none)))) else (if x987000 = true then (some (x987000, x987001, x987002, x987003)) else (some (false, ([] : List (S111)), 0, 0)))))) else (if x987000 = true then (some (x987000, x987001, x987002, x987003)) else (some (false, ([] : List (S111)), 0, 0)))
end
def spec_ReadArea.f (k : Nat) (l0_0 : List Int) (l0_1 : List (S79)) (a0_2 : Int) (a0_3 : Bool) (a1 : Int) (a2 : Int) : Option (Bool × (List (S111)) × Int × Int) := (spec_ValidDisk.f k l0_0 l0_1 a0_2 a0_3).bind fun t984 => (if t984 = true then (if a1 < 0 then (spec_ReadArea.j0 k a1 a2 true l0_0 l0_1 a0_2 a0_3) else (if a1 > 1 then (spec_ReadArea.j0 k a1 a2 true l0_0 l0_1 a0_2 a0_3) else ((spec_l2Number.f a2).bind fun t985 => (spec_ReadArea.j0 k a1 a2 (!t985) l0_0 l0_1 a0_2 a0_3)))) else (spec_ReadArea.j0 k a1 a2 true l0_0 l0_1 a0_2 a0_3))
def spec_ReadArea.T4 : Bool × List (List Nat × List Nat) := (true, [([], []), ([0], [0]), ([1], [1]), ([2, 2], [2]), ([3], [3]), ([4, 3], [3, 4]), ([3], [3]), ([6, 3, 3], [3, 6]), ([5, 7, 3], [3, 5, 7]), ([3, 8], [3, 8])])
def spec_ReadArea.B4 : List Nat := [0, 1, 3, 7, 15, 31, 15, 79, 255, 511]
def spec_ReadArea.T5 : Bool × List (List Nat × List Nat) := (true, [([], []), ([], []), ([], []), ([1, 2], [1, 2]), ([], []), ([4], [4]), ([3, 5], [3, 5]), ([], []), ([7], [7]), ([0, 6, 8, 3], [0, 6, 8]), ([], []), ([10, 9, 9, 0, 1, 2, 3, 4, 5, 6, 7, 8, 9, 10], [9, 10])])
def spec_ReadArea.B5 : List Nat := [0, 0, 0, 6, 0, 16, 62, 0, 128, 511, 0, 2047]
def spec_ReadArea.T6 : Bool × List (List Nat × List Nat) := (true, [([], []), ([0], [0]), ([1], [1]), ([2], [2]), ([3], [3]), ([4, 3], [3, 4]), ([3], [3]), ([6, 3], [3, 6]), ([5, 7, 3], [3, 5, 7]), ([3], [3]), ([9, 3, 3], [3, 9]), ([8, 10, 3], [3, 8, 10]), ([3, 11], [3, 11])])
def spec_ReadArea.B6 : List Nat := [0, 1, 3, 7, 15, 31, 15, 79, 255, 15, 527, 2047, 4095]
-- needs mRA AS.next AR.store
def spec_ReadArea.gT4 : Bool × List (List Nat × List Nat) := (true, [([], []), ([0], [0]), ([1], [1]), ([2, 2], [2]), ([3], [3]), ([4, 3], [3, 4]), ([3], [3]), ([6, 3, 3], [3, 6]), ([5, 7, 3], [3, 5, 7]), ([3, 8], [3, 8])])
def spec_ReadArea.gB4 : List Nat := [0, 1, 3, 7, 15, 31, 15, 79, 255, 511]
theorem spec_ReadArea.gtab4 : rtab .any (opsOf Try.f40 4) = spec_ReadArea.gT4 := by kernel_rfl
theorem spec_ReadArea.gbits4 : waitsOk spec_ReadArea.gT4.2 spec_ReadArea.gB4 = true := by kernel_rfl
def spec_ReadArea.gT5 : Bool × List (List Nat × List Nat) := (true, [([], []), ([], []), ([], []), ([1, 2], [1, 2]), ([], []), ([4], [4]), ([3, 5], [3, 5]), ([], []), ([7], [7]), ([0, 6, 8, 3], [0, 6, 8]), ([], []), ([10, 9, 9, 0, 1, 2, 3, 4, 5, 6, 7, 8, 9, 10], [9, 10])])
def spec_ReadArea.gB5 : List Nat := [0, 0, 0, 6, 0, 16, 62, 0, 128, 511, 0, 2047]
theorem spec_ReadArea.gtab5 : rtab .any (opsOf Try.f40 5) = spec_ReadArea.gT5 := by kernel_rfl
theorem spec_ReadArea.gbits5 : waitsOk spec_ReadArea.gT5.2 spec_ReadArea.gB5 = true := by kernel_rfl
def spec_ReadArea.gT6 : Bool × List (List Nat × List Nat) := (true, [([], []), ([0], [0]), ([1], [1]), ([2], [2]), ([3], [3]), ([4, 3], [3, 4]), ([3], [3]), ([6, 3], [3, 6]), ([5, 7, 3], [3, 5, 7]), ([3], [3]), ([9, 3, 3], [3, 9]), ([8, 10, 3], [3, 8, 10]), ([3, 11], [3, 11])])
def spec_ReadArea.gB6 : List Nat := [0, 1, 3, 7, 15, 31, 15, 79, 255, 15, 527, 2047, 4095]
theorem spec_ReadArea.gtab6 : rtab .any (opsOf Try.f40 6) = spec_ReadArea.gT6 := by kernel_rfl
theorem spec_ReadArea.gbits6 : waitsOk spec_ReadArea.gT6.2 spec_ReadArea.gB6 = true := by kernel_rfl
set_option maxHeartbeats 4000000 in
set_option maxRecDepth 100000 in
theorem spec_ReadArea_any (A0 : Option Addr) (c0 : Nat) (l0 : List Int) (A1 : Option Addr) (c1 : Nat) (l1 : List S79) (a2 : Int) (a3 : Bool) (ar fs : Int) (w : World) (hr0 : Kd.C (Kd.int .u8) w A0 l0.length l0) (hc0 : l0.length ≤ c0) (hr1 : Kd.C k79 w A1 l1.length l1) (hc1 : l1.length ≤ c1) (hok : RsOk l0 l1) :
  Calls Try.prog 40 #[.agg #[.slice A0 l0.length c0, .slice A1 l1.length c1, .int .i64 a2, .bool a3], .int .i64 ar, .int .i64 fs] w fun e w' => ∃ v : Value, e = .returned (.agg #[.bool (mRA l0 l1 a2 ar fs).1, v, .int .i64 (mRA l0 l1 a2 ar fs).2.2.1, .int .i64 (mRA l0 l1 a2 ar fs).2.2.2]) ∧ Kd.S k111 111 w' w.heap.size (fun _ => True) v (mRA l0 l1 a2 ar fs).2.1 ∧ Below w.heap.size w w' := by
 obtain ⟨kv, hv⟩ := (specValid_ev l0 l1 a2 a3 hok.1 hok.2.1.1).rounds
 have HV := Aside0.mk hv
 have HR0 := Aside0.mk hr0
 have HC0 := Aside0.mk hc0
 have HR1 := Aside0.mk hr1
 have HC1 := Aside0.mk hc1
 have HOK := Aside0.mk hok
 clear hr0 hc0 hr1 hc1 hv hok
 have hu25 := Try.underlying25
 have hu65 := Try.underlying65
 have hu49 := Try.underlying49
 have hb0 := below_alloc (below_alloc (Below.refl w.heap.size w) (.cells #[.slice A0 l0.length c0, .slice A1 l1.length c1, .int .i64 a2, .bool a3] 25)) (.cells #[.bool false, .slice none 0 0, .int .i64 0, .int .i64 0] 65)
 have K3 := Aside0.mk (blk_alloc (blk_new w (.cells #[.slice A0 l0.length c0, .slice A1 l1.length c1, .int .i64 a2, .bool a3] 25)) (.cells #[.bool false, .slice none 0 0, .int .i64 0, .int .i64 0] 65))
 have K6 := Aside0.mk (blk_new (w.alloc (.cells #[.slice A0 l0.length c0, .slice A1 l1.length c1, .int .i64 a2, .bool a3] 25)) (.cells #[.bool false, .slice none 0 0, .int .i64 0, .int .i64 0] 65))
 simp only [World.size_alloc] at K6
 have HB := Aside0.mk hb0
 clear hb0
 go_enter Try.func40, Try.ntmps40
 go_wp2_with fail
 generalize ((w.alloc (.cells #[.slice A0 l0.length c0, .slice A1 l1.length c1, .int .i64 a2, .bool a3] 25)).alloc (.cells #[.bool false, .slice none 0 0, .int .i64 0, .int .i64 0] 65)) = W0 at *
 refine (spec_ValidDisk.calls kv _ _ l0 _ _ l1 a2 a3 _ _ (Kd.C_below HR0.out HB.out) HC0.out (Kd.C_below HR1.out HB.out) HC1.out HV.out).mono ?_
 rintro e W1 ⟨rfl, hb⟩
 replace K3 := Aside0.mk (blk_below K3.out hb)
 replace K6 := Aside0.mk (blk_below K6.out hb)
 replace HB := Aside0.mk (below_step HB.out hb)
 clear hb
 obtain ⟨z0, z1, z2, z3, y0, y1, y2, y3⟩ := blk_cells4 K6.out
 by_cases cv : vD l0 l1 a2 = true
 case neg =>
  have cv' : vD l0 l1 a2 = false := by simpa using cv
  rw [cv']
  have em := Aside0.mk (show mRA l0 l1 a2 ar fs = (false, [], 0, 0) by unfold mRA; rw [cv', if_neg (by simp)])
  go_wp2_with fail
  refine bodyPost_ret (results_cell_row rfl _ _ (w.heap.size + 1) 65 #[.bool false, .slice none 0 0, .int .i64 0, .int .i64 0] (0, 0) _ rfl (blk_put (cs := #[.bool false, .slice none 0 0, .int .i64 0, .int .i64 0]) (blk_put (cs := #[.bool false, .slice none 0 0, .int .i64 0, .int .i64 0]) (blk_put (cs := #[.bool false, .slice none 0 0, .int .i64 0, .int .i64 0]) (blk_put (cs := #[.bool false, .slice none 0 0, .int .i64 0, .int .i64 0]) K6.out 0 _ rfl) 1 _ rfl) 2 _ rfl) 3 _ rfl) hu65 rfl (by kernel_rfl)) rfl ?_
  exact ra_zero em.out HB.out
 rw [cv]
 have CV := Aside0.mk cv
 clear cv
 by_cases c0 : ar < 0
 ·have em := Aside0.mk (show mRA l0 l1 a2 ar fs = (false, [], 0, 0) by unfold mRA; rw [if_neg (by simp; omega)])
  go_wp2_with fail
  refine bodyPost_ret (results_cell_row rfl _ _ (w.heap.size + 1) 65 #[.bool false, .slice none 0 0, .int .i64 0, .int .i64 0] (0, 0) _ rfl (blk_put (cs := #[.bool false, .slice none 0 0, .int .i64 0, .int .i64 0]) (blk_put (cs := #[.bool false, .slice none 0 0, .int .i64 0, .int .i64 0]) (blk_put (cs := #[.bool false, .slice none 0 0, .int .i64 0, .int .i64 0]) (blk_put (cs := #[.bool false, .slice none 0 0, .int .i64 0, .int .i64 0]) K6.out 0 _ rfl) 1 _ rfl) 2 _ rfl) 3 _ rfl) hu65 rfl (by kernel_rfl)) rfl ?_
  exact ra_zero em.out HB.out
 by_cases c1_ : (1 : Int) < ar
 ·have em := Aside0.mk (show mRA l0 l1 a2 ar fs = (false, [], 0, 0) by unfold mRA; rw [if_neg (by simp; omega)])
  go_wp2_with fail
  refine bodyPost_ret (results_cell_row rfl _ _ (w.heap.size + 1) 65 #[.bool false, .slice none 0 0, .int .i64 0, .int .i64 0] (0, 0) _ rfl (blk_put (cs := #[.bool false, .slice none 0 0, .int .i64 0, .int .i64 0]) (blk_put (cs := #[.bool false, .slice none 0 0, .int .i64 0, .int .i64 0]) (blk_put (cs := #[.bool false, .slice none 0 0, .int .i64 0, .int .i64 0]) (blk_put (cs := #[.bool false, .slice none 0 0, .int .i64 0, .int .i64 0]) K6.out 0 _ rfl) 1 _ rfl) 2 _ rfl) 3 _ rfl) hu65 rfl (by kernel_rfl)) rfl ?_
  exact ra_zero em.out HB.out
 have C01 := Aside0.mk (show 0 ≤ ar ∧ ar ≤ 1 by omega)
 go_wp2_with fail
 refine (spec_l2Number.calls fs (gN fs) _ (specNum_eq fs)).mono ?_
 rintro e W2 ⟨rfl, hd⟩
 have hb := hd.below
 clear hd z0 z1 z2 z3 y0 y1 y2 y3
 replace K3 := Aside0.mk (blk_below K3.out hb)
 replace K6 := Aside0.mk (blk_below K6.out hb)
 replace HB := Aside0.mk (below_step HB.out hb)
 clear hb
 obtain ⟨z0, z1, z2, z3, y0, y1, y2, y3⟩ := blk_cells4 K6.out
 by_cases cg : gN fs = true
 case neg =>
  have cg' : gN fs = false := by simpa using cg
  rw [cg']
  have em := Aside0.mk (show mRA l0 l1 a2 ar fs = (false, [], 0, 0) by unfold mRA; rw [cg', if_neg (by simp)])
  go_wp2_with fail
  refine bodyPost_ret (results_cell_row rfl _ _ (w.heap.size + 1) 65 #[.bool false, .slice none 0 0, .int .i64 0, .int .i64 0] (0, 0) _ rfl (blk_put (cs := #[.bool false, .slice none 0 0, .int .i64 0, .int .i64 0]) (blk_put (cs := #[.bool false, .slice none 0 0, .int .i64 0, .int .i64 0]) (blk_put (cs := #[.bool false, .slice none 0 0, .int .i64 0, .int .i64 0]) (blk_put (cs := #[.bool false, .slice none 0 0, .int .i64 0, .int .i64 0]) K6.out 0 _ rfl) 1 _ rfl) 2 _ rfl) 3 _ rfl) hu65 rfl (by kernel_rfl)) rfl ?_
  exact ra_zero em.out HB.out
 rw [cg]
 have hm : mRA l0 l1 a2 ar fs = if (raAll l0 l1 a2 ar fs).1 = true then raAll l0 l1 a2 ar fs else (false, [], 0, 0) := by
  unfold mRA
  rw [if_pos (by rw [CV.out, cg]; simp; exact C01.out)]
 have hfs : 1 ≤ fs ∧ fs ≤ 2000000000 := by unfold gN at cg; simpa using cg
 have hbg := begin_s a3 HOK.out.1 CV.out ar C01.out.1 C01.out.2
 have har := area_s a3 HOK.out.1 CV.out
 have hab := asz_bd CV.out
 have hra : raF (rrOf l0 l1 a2) (2 + ar * asz l0) (asz l0) ((asz l0).toNat + 1) false [] 0 fs = raAll l0 l1 a2 ar fs := rfl
 have hb4 : 2 ≤ 2 + ar * asz l0 ∧ 2 + ar * asz l0 ≤ 513 := by
  have h1 := C01.out
  rcases (show ar = 0 ∨ ar = 1 by omega) with e | e <;> subst e <;> omega
 generalize 2 + ar * asz l0 = b at hbg hra hb4
 generalize asz l0 = a at har hab hra hbg
 generalize raAll l0 l1 a2 ar fs = z at hm hra
 have HM := Aside0.mk hm
 have HBG := Aside0.mk hbg
 have HAR := Aside0.mk har
 have HAB := Aside0.mk hab
 have HRA := Aside0.mk hra
 have HB4 := Aside0.mk hb4
 have HFS := Aside0.mk hfs
 clear hm hbg har hab hra hb4 hfs cg
 go_wp2_with fail
 clear c0 c1_
 have HS := Aside0.mk (show AS w (W2.alloc (.cells #[.bool false, .slice none 0 0, .int .i64 0, .int .i64 fs] 65)) W2.heap.size #[.slice A0 l0.length c0, .slice A1 l1.length c1, .int .i64 a2, .bool a3] false (.slice none 0 0) 0 fs [] from ⟨blk_alloc K3.out _, blk_alloc K6.out _, blk_new _ _, Kd.S_nil _ _ _ _ _, below_alloc HB.out _, blk_lt K6.out⟩)
 clear z0 z1 z2 z3 y0 y1 y2 y3 K3 K6 HB
 generalize W2.alloc (.cells #[.bool false, .slice none 0 0, .int .i64 0, .int .i64 fs] 65) = W3 at *
 generalize W2.heap.size = g7 at *
 go_loopg [] (a.toNat + 1) (fun kq w' => ∃ (ok : Bool) (ps : List S111) (u nx : Int) (v : Value), Aside0 (raF (rrOf l0 l1 a2) b a kq ok ps u nx = z) ∧ Aside0 (0 ≤ u ∧ u ≤ a ∧ a - u < kq ∧ 1 ≤ nx ∧ nx ≤ 2000000001 ∧ (ps.length : Int) ≤ u) ∧ Aside0 (AS w w' g7 #[.slice A0 l0.length c0, .slice A1 l1.length c1, .int .i64 a2, .bool a3] ok v u nx ps))
 case atStart => exact ⟨false, [], 0, fs, .slice none 0 0, HRA, ⟨by have h1 := HAB.out; have h2 := HFS.out; simp; omega⟩, HS⟩
 case round =>
  clear HS HRA
  obtain ⟨ok, ps, u, nx, v, HR, HI, HS⟩ := hrel
  cases gk with
  | zero => exact absurd HI.out (by omega)
  | succ m =>
    by_cases cn : gN nx = true
    case neg =>
      have cn' : gN nx = false := by simpa using cn
      have HZ := Aside0.mk (show z = (ok, ps, u, nx) by rw [← HR.out, raF, if_neg (fun h => cn h.1)])
      go_wp2_with fail
      refine start_ (n := 10) (S := fun w' => w'.heap[w.heap.size]? = some (.cells #[.slice A0 l0.length c0, .slice A1 l1.length c1, .int .i64 a2, .bool a3] 25 (0, 0)) ∧ w'.heap[g7]? = some (.cells #[.bool ok, v, .int .i64 u, .int .i64 nx] 65 (0, 0))) (ds := []) #[false, false, false, false, false, false, false, false, false, false] (by kernel_rfl) rfl rfl ⟨HS.out.d, HS.out.o⟩ (fun hHeld => ?_); refine with_tabW spec_ReadArea.gtab4 spec_ReadArea.gbits4 (fun HT_ HW_ => ?_)
      replace HS := Aside0.mk (HS.out.below (below_drew1 (Below.refl _ _)))
      generalize wr.drew = Wd at *
      refine pure_ (i := 0) (N := some 28) (v := ?_) (a' := ?_) #[true, false, false, false, false, false, false, false, false, false] rfl rfl (any_of HT_.out (by kernel_rfl)) (fun _ _ _ h => h) (Or.inl ⟨by rfl, ?_⟩) ?_ ?_
      rotate_left
      · intro w'
        go_simp
        with_reducible rfl
      rotate_left
      · simp only [Act.put, List.setIfInBounds_toArray, List.set_cons_zero, List.set_cons_succ, i64_w, i32_w]
        rfl
      refine take_ (i := 1) (N := some 29) (v := ?_) (a' := ?_) #[true, true, false, false, false, false, false, false, false, false] rfl rfl (take_ofW HT_.out HW_.out (by kernel_rfl)) (fun _ _ _ h => h) (Or.inl ⟨by rfl, ?_⟩) hHeld ?_ ?_
      rotate_left
      · rintro w' ⟨s0, s1⟩
        obtain ⟨o0, o1, o2, o3, _, _, _, _⟩ := blk_cells4 s1
        go_simp
        with_reducible rfl
      rotate_left
      · simp only [Act.put, List.setIfInBounds_toArray, List.set_cons_zero, List.set_cons_succ, i64_w, i32_w]
        rfl
      refine one_ (i := 2) (N := some 30) #[true, true, true, false, false, false, false, false, false, false] rfl rfl (one_of HT_.out (by kernel_rfl)) (by decide) (fun K hK => ?_)
      refine goes_ Try.func66 (by kernel_rfl) rfl #[.int .i64 nx] (by rfl) rfl rfl (by (try simp only [List.map_toArray, List.map_cons, List.map_nil]); first | done | rfl) ?_
      refine (spec_l2Number.calls nx (gN nx) _ (specNum_eq nx)).mono ?_
      rintro e We ⟨rfl, hd⟩
      refine ⟨_, rfl, ?_⟩
      replace HS := Aside0.mk (HS.out.below hd.below)
      clear hd
      rw [cn']
      refine hK.out _ _ ⟨HS.out.d, HS.out.o⟩ (fun hHeld => ?_)
      clear hK K
      refine norm_ (a' := ?_) ?_ ?_
      rotate_left
      · show Act.put _ (some 30) _ = _
        simp only [Act.put, List.setIfInBounds_toArray, List.set_cons_zero, List.set_cons_succ, i64_w, i32_w]
        rfl
      refine pure_ (i := 3) (N := some 31) (v := ?_) (a' := ?_) #[true, true, true, true, false, false, false, false, false, false] rfl rfl (any_of HT_.out (by kernel_rfl)) (fun _ _ _ h => h) (Or.inl ⟨by rfl, ?_⟩) ?_ ?_
      rotate_left
      · intro w'
        go_simp
        with_reducible rfl
      rotate_left
      · simp only [Act.put, List.setIfInBounds_toArray, List.set_cons_zero, List.set_cons_succ, i64_w, i32_w]
        rfl
      refine pure_ (i := 4) (N := some 32) (v := undef) (a' := ?_) #[true, true, true, true, true, false, false, false, false, false] rfl rfl (any_of HT_.out (by kernel_rfl)) (fun _ _ _ h => h) (Or.inr ⟨by rfl, rfl⟩) ?_ ?_
      rotate_left
      · simp only [Act.put, List.setIfInBounds_toArray, List.set_cons_zero, List.set_cons_succ, i64_w, i32_w]
        rfl
      refine pure_ (i := 5) (N := some 33) (v := undef) (a' := ?_) #[true, true, true, true, true, true, false, false, false, false] rfl rfl (any_of HT_.out (by kernel_rfl)) (fun _ _ _ h => h) (Or.inr ⟨by rfl, rfl⟩) ?_ ?_
      rotate_left
      · simp only [Act.put, List.setIfInBounds_toArray, List.set_cons_zero, List.set_cons_succ, i64_w, i32_w]
        rfl
      refine pure_ (i := 6) (N := some 34) (v := undef) (a' := ?_) #[true, true, true, true, true, true, true, false, false, false] rfl rfl (any_of HT_.out (by kernel_rfl)) (fun _ _ _ h => h) (Or.inr ⟨by rfl, rfl⟩) ?_ ?_
      rotate_left
      · simp only [Act.put, List.setIfInBounds_toArray, List.set_cons_zero, List.set_cons_succ, i64_w, i32_w]
        rfl
      refine pure_ (i := 7) (N := some 35) (v := undef) (a' := ?_) #[true, true, true, true, true, true, true, true, false, false] rfl rfl (any_of HT_.out (by kernel_rfl)) (fun _ _ _ h => h) (Or.inr ⟨by rfl, rfl⟩) ?_ ?_
      rotate_left
      · simp only [Act.put, List.setIfInBounds_toArray, List.set_cons_zero, List.set_cons_succ, i64_w, i32_w]
        rfl
      refine pure_ (i := 8) (N := some 36) (v := undef) (a' := ?_) #[true, true, true, true, true, true, true, true, true, false] rfl rfl (any_of HT_.out (by kernel_rfl)) (fun _ _ _ h => h) (Or.inr ⟨by rfl, rfl⟩) ?_ ?_
      rotate_left
      · simp only [Act.put, List.setIfInBounds_toArray, List.set_cons_zero, List.set_cons_succ, i64_w, i32_w]
        rfl
      refine pure_ (i := 9) (N := some 37) (v := ?_) (a' := ?_) #[true, true, true, true, true, true, true, true, true, true] rfl rfl (any_of HT_.out (by kernel_rfl)) (fun _ _ _ h => h) (Or.inl ⟨by rfl, ?_⟩) ?_ ?_
      rotate_left
      · intro w'
        go_simp
        with_reducible rfl
      rotate_left
      · simp only [Act.put, List.setIfInBounds_toArray, List.set_cons_zero, List.set_cons_succ, i64_w, i32_w]
        rfl
      refine done_ (done_of HT_.out (by kernel_rfl)) ?_
      obtain ⟨o0, o1, o2, o3, _, _, _, _⟩ := blk_cells4 HS.out.o
      obtain ⟨z0, z1, z2, z3, y0, y1, y2, y3⟩ := blk_cells4 HS.out.r
      have hn67 : w.heap.size + 1 ≠ g7 := Nat.ne_of_lt HS.out.l
      cases ok with
      | true =>
        have em := Aside0.mk (show mRA l0 l1 a2 ar fs = (true, ps, u, nx) by rw [HM.out, HZ.out]; rfl)
        obtain ⟨Av, cv_, rfl⟩ := Kd.S_slice HS.out.s
        go_wp2_with fail
        have B1 := blk_put (cs' := #[.bool true, .slice none 0 0, .int .i64 0, .int .i64 0]) HS.out.r 0 (.bool true) rfl
        have B2 := blk_put (cs' := #[.bool true, .slice Av ps.length cv_, .int .i64 0, .int .i64 0]) B1 1 (.slice Av ps.length cv_) rfl
        have B3 := blk_put (cs' := #[.bool true, .slice Av ps.length cv_, .int .i64 u, .int .i64 0]) B2 2 (.int .i64 u) rfl
        have B4 := blk_put (cs' := #[.bool true, .slice Av ps.length cv_, .int .i64 u, .int .i64 nx]) B3 3 (.int .i64 nx) rfl
        refine bodyPost_ret (results_cell_row rfl _ _ (w.heap.size + 1) 65 #[.bool true, .slice Av ps.length cv_, .int .i64 u, .int .i64 nx] (0, 0) _ rfl B4 hu65 rfl (by kernel_rfl)) rfl ?_
        rw [em.out]
        exact ⟨_, rfl, Kd.S_set (Kd.S_set (Kd.S_set (Kd.S_set HS.out.s HS.out.r (by decide) 0 _) B1 (by decide) 1 _) B2 (by decide) 2 _) B3 (by decide) 3 _, below_set (below_set (below_set (below_set HS.out.b (Nat.le_succ _)) (Nat.le_succ _)) (Nat.le_succ _)) (Nat.le_succ _)⟩
      | false =>
        have em := Aside0.mk (show mRA l0 l1 a2 ar fs = (false, [], 0, 0) by rw [HM.out, HZ.out]; rfl)
        go_wp2_with fail
        refine bodyPost_ret (results_cell_row rfl _ _ (w.heap.size + 1) 65 #[.bool false, .slice none 0 0, .int .i64 0, .int .i64 0] (0, 0) _ rfl (blk_put (cs := #[.bool false, .slice none 0 0, .int .i64 0, .int .i64 0]) (blk_put (cs := #[.bool false, .slice none 0 0, .int .i64 0, .int .i64 0]) (blk_put (cs := #[.bool false, .slice none 0 0, .int .i64 0, .int .i64 0]) (blk_put (cs := #[.bool false, .slice none 0 0, .int .i64 0, .int .i64 0]) HS.out.r 0 _ rfl) 1 _ rfl) 2 _ rfl) 3 _ rfl) hu65 rfl (by kernel_rfl)) rfl ?_
        exact ra_zero em.out HS.out.b
    by_cases cu : u < a
    case neg =>
      have cub : decide (u < a) = false := decide_eq_false cu
      have HZ := Aside0.mk (show z = (ok, ps, u, nx) by
        rw [← HR.out, raF, if_neg (fun h => ?_)]
        have h1 := (rr_bd HOK.out _ _ h.2.1).1
        have h2 := h.2.2
        have h3 := HI.out
        omega)
      clear cu
      go_wp2_with fail
      refine start_ (n := 10) (S := fun w' => w'.heap[w.heap.size]? = some (.cells #[.slice A0 l0.length c0, .slice A1 l1.length c1, .int .i64 a2, .bool a3] 25 (0, 0)) ∧ w'.heap[g7]? = some (.cells #[.bool ok, v, .int .i64 u, .int .i64 nx] 65 (0, 0))) (ds := []) #[false, false, false, false, false, false, false, false, false, false] (by kernel_rfl) rfl rfl ⟨HS.out.d, HS.out.o⟩ (fun hHeld => ?_); refine with_tabW spec_ReadArea.gtab4 spec_ReadArea.gbits4 (fun HT_ HW_ => ?_)
      replace HS := Aside0.mk (HS.out.below (below_drew1 (Below.refl _ _)))
      generalize wr.drew = Wd at *
      refine pure_ (i := 0) (N := some 28) (v := ?_) (a' := ?_) #[true, false, false, false, false, false, false, false, false, false] rfl rfl (any_of HT_.out (by kernel_rfl)) (fun _ _ _ h => h) (Or.inl ⟨by rfl, ?_⟩) ?_ ?_
      rotate_left
      · intro w'
        go_simp
        with_reducible rfl
      rotate_left
      · simp only [Act.put, List.setIfInBounds_toArray, List.set_cons_zero, List.set_cons_succ, i64_w, i32_w]
        rfl
      refine take_ (i := 1) (N := some 29) (v := ?_) (a' := ?_) #[true, true, false, false, false, false, false, false, false, false] rfl rfl (take_ofW HT_.out HW_.out (by kernel_rfl)) (fun _ _ _ h => h) (Or.inl ⟨by rfl, ?_⟩) hHeld ?_ ?_
      rotate_left
      · rintro w' ⟨s0, s1⟩
        obtain ⟨o0, o1, o2, o3, _, _, _, _⟩ := blk_cells4 s1
        go_simp
        with_reducible rfl
      rotate_left
      · simp only [Act.put, List.setIfInBounds_toArray, List.set_cons_zero, List.set_cons_succ, i64_w, i32_w]
        rfl
      refine one_ (i := 2) (N := some 30) #[true, true, true, false, false, false, false, false, false, false] rfl rfl (one_of HT_.out (by kernel_rfl)) (by decide) (fun K hK => ?_)
      refine goes_ Try.func66 (by kernel_rfl) rfl #[.int .i64 nx] (by rfl) rfl rfl (by (try simp only [List.map_toArray, List.map_cons, List.map_nil]); first | done | rfl) ?_
      refine (spec_l2Number.calls nx (gN nx) _ (specNum_eq nx)).mono ?_
      rintro e We ⟨rfl, hd⟩
      refine ⟨_, rfl, ?_⟩
      replace HS := Aside0.mk (HS.out.below hd.below)
      clear hd
      rw [cn]
      refine hK.out _ _ ⟨HS.out.d, HS.out.o⟩ (fun hHeld => ?_)
      clear hK K
      refine norm_ (a' := ?_) ?_ ?_
      rotate_left
      · show Act.put _ (some 30) _ = _
        simp only [Act.put, List.setIfInBounds_toArray, List.set_cons_zero, List.set_cons_succ, i64_w, i32_w]
        rfl
      refine pure_ (i := 3) (N := some 31) (v := ?_) (a' := ?_) #[true, true, true, true, false, false, false, false, false, false] rfl rfl (any_of HT_.out (by kernel_rfl)) (fun _ _ _ h => h) (Or.inl ⟨by rfl, ?_⟩) ?_ ?_
      rotate_left
      · intro w'
        go_simp
        with_reducible rfl
      rotate_left
      · simp only [Act.put, List.setIfInBounds_toArray, List.set_cons_zero, List.set_cons_succ, i64_w, i32_w]
        rfl
      refine pure_ (i := 4) (N := some 32) (v := ?_) (a' := ?_) #[true, true, true, true, true, false, false, false, false, false] rfl rfl (any_of HT_.out (by kernel_rfl)) (fun _ _ _ h => h) (Or.inl ⟨by rfl, ?_⟩) ?_ ?_
      rotate_left
      · intro w'
        go_simp
        with_reducible rfl
      rotate_left
      · simp only [Act.put, List.setIfInBounds_toArray, List.set_cons_zero, List.set_cons_succ, i64_w, i32_w]
        rfl
      refine take_ (i := 5) (N := some 33) (v := ?_) (a' := ?_) #[true, true, true, true, true, true, false, false, false, false] rfl rfl (take_ofW HT_.out HW_.out (by kernel_rfl)) (fun _ _ _ h => h) (Or.inl ⟨by rfl, ?_⟩) hHeld ?_ ?_
      rotate_left
      · rintro w' ⟨s0, s1⟩
        obtain ⟨o0, o1, o2, o3, _, _, _, _⟩ := blk_cells4 s1
        go_simp
        with_reducible rfl
      rotate_left
      · simp only [Act.put, List.setIfInBounds_toArray, List.set_cons_zero, List.set_cons_succ, i64_w, i32_w]
        rfl
      refine take_ (i := 6) (N := some 34) (v := ?_) (a' := ?_) #[true, true, true, true, true, true, true, false, false, false] rfl rfl (take_ofW HT_.out HW_.out (by kernel_rfl)) (fun _ _ _ h => h) (Or.inl ⟨by rfl, ?_⟩) hHeld ?_ ?_
      rotate_left
      · rintro w' ⟨s0, s1⟩
        obtain ⟨x0, x1, x2, x3, _, _, _, _⟩ := blk_cells4 s0
        go_simp
        with_reducible rfl
      rotate_left
      · simp only [Act.put, List.setIfInBounds_toArray, List.set_cons_zero, List.set_cons_succ, i64_w, i32_w]
        rfl
      refine one_ (i := 7) (N := some 35) #[true, true, true, true, true, true, true, true, false, false] rfl rfl (one_of HT_.out (by kernel_rfl)) (by decide) (fun K hK => ?_)
      refine goes_ Try.func88 (by kernel_rfl) rfl #[.agg #[.slice A0 l0.length c0, .slice A1 l1.length c1, .int .i64 a2, .bool a3]] (by rfl) rfl rfl (by (try simp only [List.map_toArray, List.map_cons, List.map_nil]); first | done | rfl) ?_
      refine (spec_l2AreaSize.calls _ _ l0 _ _ l1 a2 a3 _ _ (Kd.C_below HR0.out HS.out.b) HC0.out (Kd.C_below HR1.out HS.out.b) HC1.out HAR.out).mono ?_
      rintro e We ⟨rfl, hb⟩
      refine ⟨_, rfl, ?_⟩
      replace HS := Aside0.mk (HS.out.below hb)
      clear hb
      refine hK.out _ _ ⟨HS.out.d, HS.out.o⟩ (fun hHeld => ?_)
      clear hK K
      refine norm_ (a' := ?_) ?_ ?_
      rotate_left
      · show Act.put _ (some 35) _ = _
        simp only [Act.put, List.setIfInBounds_toArray, List.set_cons_zero, List.set_cons_succ, i64_w, i32_w]
        rfl
      refine pure_ (i := 8) (N := some 36) (v := ?_) (a' := ?_) #[true, true, true, true, true, true, true, true, true, false] rfl rfl (any_of HT_.out (by kernel_rfl)) (fun _ _ _ h => h) (Or.inl ⟨by rfl, ?_⟩) ?_ ?_
      rotate_left
      · intro w'
        go_simp
        with_reducible rfl
      rotate_left
      · simp only [Act.put, List.setIfInBounds_toArray, List.set_cons_zero, List.set_cons_succ, i64_w, i32_w]
        rfl
      refine pure_ (i := 9) (N := some 37) (v := ?_) (a' := ?_) #[true, true, true, true, true, true, true, true, true, true] rfl rfl (any_of HT_.out (by kernel_rfl)) (fun _ _ _ h => h) (Or.inl ⟨by rfl, ?_⟩) ?_ ?_
      rotate_left
      · intro w'
        go_simp
        with_reducible rfl
      rotate_left
      · simp only [Act.put, List.setIfInBounds_toArray, List.set_cons_zero, List.set_cons_succ, i64_w, i32_w]
        rfl
      refine done_ (done_of HT_.out (by kernel_rfl)) ?_
      obtain ⟨o0, o1, o2, o3, _, _, _, _⟩ := blk_cells4 HS.out.o
      obtain ⟨z0, z1, z2, z3, y0, y1, y2, y3⟩ := blk_cells4 HS.out.r
      have hn67 : w.heap.size + 1 ≠ g7 := Nat.ne_of_lt HS.out.l
      cases ok with
      | true =>
        have em := Aside0.mk (show mRA l0 l1 a2 ar fs = (true, ps, u, nx) by rw [HM.out, HZ.out]; rfl)
        obtain ⟨Av, cv_, rfl⟩ := Kd.S_slice HS.out.s
        go_wp2_with fail
        have B1 := blk_put (cs' := #[.bool true, .slice none 0 0, .int .i64 0, .int .i64 0]) HS.out.r 0 (.bool true) rfl
        have B2 := blk_put (cs' := #[.bool true, .slice Av ps.length cv_, .int .i64 0, .int .i64 0]) B1 1 (.slice Av ps.length cv_) rfl
        have B3 := blk_put (cs' := #[.bool true, .slice Av ps.length cv_, .int .i64 u, .int .i64 0]) B2 2 (.int .i64 u) rfl
        have B4 := blk_put (cs' := #[.bool true, .slice Av ps.length cv_, .int .i64 u, .int .i64 nx]) B3 3 (.int .i64 nx) rfl
        refine bodyPost_ret (results_cell_row rfl _ _ (w.heap.size + 1) 65 #[.bool true, .slice Av ps.length cv_, .int .i64 u, .int .i64 nx] (0, 0) _ rfl B4 hu65 rfl (by kernel_rfl)) rfl ?_
        rw [em.out]
        exact ⟨_, rfl, Kd.S_set (Kd.S_set (Kd.S_set (Kd.S_set HS.out.s HS.out.r (by decide) 0 _) B1 (by decide) 1 _) B2 (by decide) 2 _) B3 (by decide) 3 _, below_set (below_set (below_set (below_set HS.out.b (Nat.le_succ _)) (Nat.le_succ _)) (Nat.le_succ _)) (Nat.le_succ _)⟩
      | false =>
        have em := Aside0.mk (show mRA l0 l1 a2 ar fs = (false, [], 0, 0) by rw [HM.out, HZ.out]; rfl)
        go_wp2_with fail
        refine bodyPost_ret (results_cell_row rfl _ _ (w.heap.size + 1) 65 #[.bool false, .slice none 0 0, .int .i64 0, .int .i64 0] (0, 0) _ rfl (blk_put (cs := #[.bool false, .slice none 0 0, .int .i64 0, .int .i64 0]) (blk_put (cs := #[.bool false, .slice none 0 0, .int .i64 0, .int .i64 0]) (blk_put (cs := #[.bool false, .slice none 0 0, .int .i64 0, .int .i64 0]) (blk_put (cs := #[.bool false, .slice none 0 0, .int .i64 0, .int .i64 0]) HS.out.r 0 _ rfl) 1 _ rfl) 2 _ rfl) 3 _ rfl) hu65 rfl (by kernel_rfl)) rfl ?_
        exact ra_zero em.out HS.out.b
    have cub : decide (u < a) = true := decide_eq_true cu
    clear cu
    go_wp2_with fail
    refine start_ (n := 10) (S := fun w' => w'.heap[w.heap.size]? = some (.cells #[.slice A0 l0.length c0, .slice A1 l1.length c1, .int .i64 a2, .bool a3] 25 (0, 0)) ∧ w'.heap[g7]? = some (.cells #[.bool ok, v, .int .i64 u, .int .i64 nx] 65 (0, 0))) (ds := []) #[false, false, false, false, false, false, false, false, false, false] (by kernel_rfl) rfl rfl ⟨HS.out.d, HS.out.o⟩ (fun hHeld => ?_); refine with_tabW spec_ReadArea.gtab4 spec_ReadArea.gbits4 (fun HT_ HW_ => ?_)
    replace HS := Aside0.mk (HS.out.below (below_drew1 (Below.refl _ _)))
    generalize wr.drew = Wd at *
    refine pure_ (i := 0) (N := some 28) (v := ?_) (a' := ?_) #[true, false, false, false, false, false, false, false, false, false] rfl rfl (any_of HT_.out (by kernel_rfl)) (fun _ _ _ h => h) (Or.inl ⟨by rfl, ?_⟩) ?_ ?_
    rotate_left
    · intro w'
      go_simp
      with_reducible rfl
    rotate_left
    · simp only [Act.put, List.setIfInBounds_toArray, List.set_cons_zero, List.set_cons_succ, i64_w, i32_w]
      rfl
    refine take_ (i := 1) (N := some 29) (v := ?_) (a' := ?_) #[true, true, false, false, false, false, false, false, false, false] rfl rfl (take_ofW HT_.out HW_.out (by kernel_rfl)) (fun _ _ _ h => h) (Or.inl ⟨by rfl, ?_⟩) hHeld ?_ ?_
    rotate_left
    · rintro w' ⟨s0, s1⟩
      obtain ⟨o0, o1, o2, o3, _, _, _, _⟩ := blk_cells4 s1
      go_simp
      with_reducible rfl
    rotate_left
    · simp only [Act.put, List.setIfInBounds_toArray, List.set_cons_zero, List.set_cons_succ, i64_w, i32_w]
      rfl
    refine one_ (i := 2) (N := some 30) #[true, true, true, false, false, false, false, false, false, false] rfl rfl (one_of HT_.out (by kernel_rfl)) (by decide) (fun K hK => ?_)
    refine goes_ Try.func66 (by kernel_rfl) rfl #[.int .i64 nx] (by rfl) rfl rfl (by (try simp only [List.map_toArray, List.map_cons, List.map_nil]); first | done | rfl) ?_
    refine (spec_l2Number.calls nx (gN nx) _ (specNum_eq nx)).mono ?_
    rintro e We ⟨rfl, hd⟩
    refine ⟨_, rfl, ?_⟩
    replace HS := Aside0.mk (HS.out.below hd.below)
    clear hd
    rw [cn]
    refine hK.out _ _ ⟨HS.out.d, HS.out.o⟩ (fun hHeld => ?_)
    clear hK K
    refine norm_ (a' := ?_) ?_ ?_
    rotate_left
    · show Act.put _ (some 30) _ = _
      simp only [Act.put, List.setIfInBounds_toArray, List.set_cons_zero, List.set_cons_succ, i64_w, i32_w]
      rfl
    refine pure_ (i := 3) (N := some 31) (v := ?_) (a' := ?_) #[true, true, true, true, false, false, false, false, false, false] rfl rfl (any_of HT_.out (by kernel_rfl)) (fun _ _ _ h => h) (Or.inl ⟨by rfl, ?_⟩) ?_ ?_
    rotate_left
    · intro w'
      go_simp
      with_reducible rfl
    rotate_left
    · simp only [Act.put, List.setIfInBounds_toArray, List.set_cons_zero, List.set_cons_succ, i64_w, i32_w]
      rfl
    refine pure_ (i := 4) (N := some 32) (v := ?_) (a' := ?_) #[true, true, true, true, true, false, false, false, false, false] rfl rfl (any_of HT_.out (by kernel_rfl)) (fun _ _ _ h => h) (Or.inl ⟨by rfl, ?_⟩) ?_ ?_
    rotate_left
    · intro w'
      go_simp
      with_reducible rfl
    rotate_left
    · simp only [Act.put, List.setIfInBounds_toArray, List.set_cons_zero, List.set_cons_succ, i64_w, i32_w]
      rfl
    refine take_ (i := 5) (N := some 33) (v := ?_) (a' := ?_) #[true, true, true, true, true, true, false, false, false, false] rfl rfl (take_ofW HT_.out HW_.out (by kernel_rfl)) (fun _ _ _ h => h) (Or.inl ⟨by rfl, ?_⟩) hHeld ?_ ?_
    rotate_left
    · rintro w' ⟨s0, s1⟩
      obtain ⟨o0, o1, o2, o3, _, _, _, _⟩ := blk_cells4 s1
      go_simp
      with_reducible rfl
    rotate_left
    · simp only [Act.put, List.setIfInBounds_toArray, List.set_cons_zero, List.set_cons_succ, i64_w, i32_w]
      rfl
    refine take_ (i := 6) (N := some 34) (v := ?_) (a' := ?_) #[true, true, true, true, true, true, true, false, false, false] rfl rfl (take_ofW HT_.out HW_.out (by kernel_rfl)) (fun _ _ _ h => h) (Or.inl ⟨by rfl, ?_⟩) hHeld ?_ ?_
    rotate_left
    · rintro w' ⟨s0, s1⟩
      obtain ⟨x0, x1, x2, x3, _, _, _, _⟩ := blk_cells4 s0
      go_simp
      with_reducible rfl
    rotate_left
    · simp only [Act.put, List.setIfInBounds_toArray, List.set_cons_zero, List.set_cons_succ, i64_w, i32_w]
      rfl
    refine one_ (i := 7) (N := some 35) #[true, true, true, true, true, true, true, true, false, false] rfl rfl (one_of HT_.out (by kernel_rfl)) (by decide) (fun K hK => ?_)
    refine goes_ Try.func88 (by kernel_rfl) rfl #[.agg #[.slice A0 l0.length c0, .slice A1 l1.length c1, .int .i64 a2, .bool a3]] (by rfl) rfl rfl (by (try simp only [List.map_toArray, List.map_cons, List.map_nil]); first | done | rfl) ?_
    refine (spec_l2AreaSize.calls _ _ l0 _ _ l1 a2 a3 _ _ (Kd.C_below HR0.out HS.out.b) HC0.out (Kd.C_below HR1.out HS.out.b) HC1.out HAR.out).mono ?_
    rintro e We ⟨rfl, hb⟩
    refine ⟨_, rfl, ?_⟩
    replace HS := Aside0.mk (HS.out.below hb)
    clear hb
    refine hK.out _ _ ⟨HS.out.d, HS.out.o⟩ (fun hHeld => ?_)
    clear hK K
    refine norm_ (a' := ?_) ?_ ?_
    rotate_left
    · show Act.put _ (some 35) _ = _
      simp only [Act.put, List.setIfInBounds_toArray, List.set_cons_zero, List.set_cons_succ, i64_w, i32_w]
      rfl
    refine pure_ (i := 8) (N := some 36) (v := ?_) (a' := ?_) #[true, true, true, true, true, true, true, true, true, false] rfl rfl (any_of HT_.out (by kernel_rfl)) (fun _ _ _ h => h) (Or.inl ⟨by rfl, ?_⟩) ?_ ?_
    rotate_left
    · intro w'
      go_simp
      with_reducible rfl
    rotate_left
    · simp only [Act.put, List.setIfInBounds_toArray, List.set_cons_zero, List.set_cons_succ, i64_w, i32_w]
      rfl
    refine pure_ (i := 9) (N := some 37) (v := ?_) (a' := ?_) #[true, true, true, true, true, true, true, true, true, true] rfl rfl (any_of HT_.out (by kernel_rfl)) (fun _ _ _ h => h) (Or.inl ⟨by rfl, ?_⟩) ?_ ?_
    rotate_left
    · intro w'
      go_simp
      with_reducible rfl
    rotate_left
    · simp only [Act.put, List.setIfInBounds_toArray, List.set_cons_zero, List.set_cons_succ, i64_w, i32_w]
      rfl
    refine done_ (done_of HT_.out (by kernel_rfl)) ?_
    go_wp2_with fail
    have hw : wrap64 (b + u) = b + u := by
      have h1 := HI.out
      have h2 := HB4.out
      have h3 := HAB.out
      unfold wrap64
      omega
    obtain ⟨⟨rok, rp, rs⟩, hz⟩ : ∃ q, q = rrOf l0 l1 a2 (b + u) nx := ⟨_, rfl⟩
    have RRC : Aside0 (∀ W : World, AS w W g7 #[.slice A0 l0.length c0, .slice A1 l1.length c1, .int .i64 a2, .bool a3] ok v u nx ps → Calls Try.prog 25 #[.agg #[.slice A0 l0.length c0, .slice A1 l1.length c1, .int .i64 a2, .bool a3], .int .i64 (wrap64 (b + u)), .int .i64 nx] W fun e w' => ∃ v : Value, e = .returned (.agg #[.bool rok, v, .int .i64 rs]) ∧ Kd.R (Kd.int .u8) 5 w' W.heap.size (fun _ => True) v rp ∧ Below W.heap.size W w') := ⟨fun W h => by
      have := rr_spec A0 c0 l0 A1 c1 l1 a2 a3 HOK.out (b + u) nx W (Kd.C_below HR0.out h.b) HC0.out (Kd.C_below HR1.out h.b) HC1.out
      rw [← hz] at this
      rw [hw]
      exact this⟩
    have HBD := Aside0.mk (show rok = true → 1 ≤ rs ∧ rs < 65536 by
      intro h
      have := rr_bd HOK.out (b + u) nx (by rw [← hz]; exact h)
      rw [← hz] at this
      exact this)
    have HR2 := Aside0.mk (show (if (rok = true ∧ ¬ u + rs > a) then raF (rrOf l0 l1 a2) b a m true (ps ++ [⟨rp⟩]) (u + rs) (nx + 1) else (ok, ps, u, nx)) = z by
      rw [← HR.out, raF, ← hz]
      by_cases c : rok = true ∧ ¬ u + rs > a
      · rw [if_pos c, if_pos ⟨cn, c⟩]
      · rw [if_neg c, if_neg (fun h => c h.2)])
    clear hw hz HR
    refine start_ (n := 12) (S := fun w' => w'.heap[w.heap.size]? = some (.cells #[.slice A0 l0.length c0, .slice A1 l1.length c1, .int .i64 a2, .bool a3] 25 (0, 0)) ∧ w'.heap[g7]? = some (.cells #[.bool ok, v, .int .i64 u, .int .i64 nx] 65 (0, 0))) (ds := []) #[false, false, false, false, false, false, false, false, false, false, false, false] (by kernel_rfl) rfl rfl ⟨HS.out.d, HS.out.o⟩ (fun hHeld => ?_); refine with_tabW spec_ReadArea.gtab5 spec_ReadArea.gbits5 (fun HT_ HW_ => ?_)
    replace HS := Aside0.mk (HS.out.below (below_drew1 (Below.refl _ _)))
    generalize We.drew = Wf at *
    refine pure_ (i := 2) (N := some 40) (v := ?_) (a' := ?_) #[false, false, true, false, false, false, false, false, false, false, false, false] rfl rfl (any_of HT_.out (by kernel_rfl)) (fun _ _ _ h => h) (Or.inl ⟨by rfl, ?_⟩) ?_ ?_
    rotate_left
    · intro w'
      go_simp
      with_reducible rfl
    rotate_left
    · simp only [Act.put, List.setIfInBounds_toArray, List.set_cons_zero, List.set_cons_succ, i64_w, i32_w]
      rfl
    refine pure_ (i := 4) (N := some 42) (v := ?_) (a' := ?_) #[false, false, true, false, true, false, false, false, false, false, false, false] rfl rfl (any_of HT_.out (by kernel_rfl)) (fun _ _ _ h => h) (Or.inl ⟨by rfl, ?_⟩) ?_ ?_
    rotate_left
    · intro w'
      go_simp
      with_reducible rfl
    rotate_left
    · simp only [Act.put, List.setIfInBounds_toArray, List.set_cons_zero, List.set_cons_succ, i64_w, i32_w]
      rfl
    refine pure_ (i := 7) (N := some 45) (v := ?_) (a' := ?_) #[false, false, true, false, true, false, false, true, false, false, false, false] rfl rfl (any_of HT_.out (by kernel_rfl)) (fun _ _ _ h => h) (Or.inl ⟨by rfl, ?_⟩) ?_ ?_
    rotate_left
    · intro w'
      go_simp
      with_reducible rfl
    rotate_left
    · simp only [Act.put, List.setIfInBounds_toArray, List.set_cons_zero, List.set_cons_succ, i64_w, i32_w]
      rfl
    refine take_ (i := 0) (N := some 38) (v := ?_) (a' := ?_) #[true, false, true, false, true, false, false, true, false, false, false, false] rfl rfl (take_ofW HT_.out HW_.out (by kernel_rfl)) (fun _ _ _ h => h) (Or.inl ⟨by rfl, ?_⟩) hHeld ?_ ?_
    rotate_left
    · rintro w' ⟨s0, s1⟩
      obtain ⟨x0, x1, x2, x3, _, _, _, _⟩ := blk_cells4 s0
      go_simp
      with_reducible rfl
    rotate_left
    · simp only [Act.put, List.setIfInBounds_toArray, List.set_cons_zero, List.set_cons_succ, i64_w, i32_w]
      rfl
    refine take_ (i := 1) (N := some 39) (v := ?_) (a' := ?_) #[true, true, true, false, true, false, false, true, false, false, false, false] rfl rfl (take_ofW HT_.out HW_.out (by kernel_rfl)) (fun _ _ _ h => h) (Or.inl ⟨by rfl, ?_⟩) hHeld ?_ ?_
    rotate_left
    · rintro w' ⟨s0, s1⟩
      obtain ⟨x0, x1, x2, x3, _, _, _, _⟩ := blk_cells4 s0
      go_simp
      with_reducible rfl
    rotate_left
    · simp only [Act.put, List.setIfInBounds_toArray, List.set_cons_zero, List.set_cons_succ, i64_w, i32_w]
      rfl
    refine take_ (i := 5) (N := some 43) (v := ?_) (a' := ?_) #[true, true, true, false, true, true, false, true, false, false, false, false] rfl rfl (take_ofW HT_.out HW_.out (by kernel_rfl)) (fun _ _ _ h => h) (Or.inl ⟨by rfl, ?_⟩) hHeld ?_ ?_
    rotate_left
    · rintro w' ⟨s0, s1⟩
      obtain ⟨o0, o1, o2, o3, _, _, _, _⟩ := blk_cells4 s1
      go_simp
      with_reducible rfl
    rotate_left
    · simp only [Act.put, List.setIfInBounds_toArray, List.set_cons_zero, List.set_cons_succ, i64_w, i32_w]
      rfl
    refine take_ (i := 8) (N := some 46) (v := ?_) (a' := ?_) #[true, true, true, false, true, true, false, true, true, false, false, false] rfl rfl (take_ofW HT_.out HW_.out (by kernel_rfl)) (fun _ _ _ h => h) (Or.inl ⟨by rfl, ?_⟩) hHeld ?_ ?_
    rotate_left
    · rintro w' ⟨s0, s1⟩
      obtain ⟨o0, o1, o2, o3, _, _, _, _⟩ := blk_cells4 s1
      go_simp
      with_reducible rfl
    rotate_left
    · simp only [Act.put, List.setIfInBounds_toArray, List.set_cons_zero, List.set_cons_succ, i64_w, i32_w]
      rfl
    refine join_ (σ := Value × Nat) 1 #[true, true, true, true, true, true, true, true, true, true, true, false] (fun s_ => [(41, .int .i64 b), (47, .agg #[.bool rok, s_.1, .int .i64 rs]), (8, .pointer (some ⟨s_.2, 0, none⟩)), (44, .int .i64 (wrap64 (b + u)))]) (fun s_ w' => (w'.heap[w.heap.size]? = some (.cells #[.slice A0 l0.length c0, .slice A1 l1.length c1, .int .i64 a2, .bool a3] 25 (0, 0)) ∧ w'.heap[g7]? = some (.cells #[.bool ok, v, .int .i64 u, .int .i64 nx] 65 (0, 0))) ∧ AR w w' g7 #[.slice A0 l0.length c0, .slice A1 l1.length c1, .int .i64 a2, .bool a3] ok v u nx ps s_.1 rp ∧ w'.heap[s_.2]? = some (.cells #[.bool false, .slice none 0 0, .int .i64 0] 49 (0, 0)) ∧ w.heap.size ≤ s_.2) ?_ ?_
    rotate_left
    · intro hCont
      refine two_ (i := 3) (j := 10) (Ni := some 41) (Nj := some 8) #[true, true, true, true, true, true, false, true, true, false, false, false] #[true, true, true, false, true, true, false, true, true, false, true, false] rfl rfl rfl rfl (two_of HT_.out (by kernel_rfl)) (by decide) (by decide) (fun K hK => ?_) (fun K hK => ?_)
      · skip
        refine goes_ Try.func89 (by kernel_rfl) rfl #[.agg #[.slice A0 l0.length c0, .slice A1 l1.length c1, .int .i64 a2, .bool a3], .int .i64 ar] (by rfl) rfl rfl (by (try simp only [List.map_toArray, List.map_cons, List.map_nil]); first | done | rfl) ?_
        refine (spec_l2AreaFrom.calls _ _ l0 _ _ l1 a2 a3 ar _ _ (Kd.C_below HR0.out HS.out.b) HC0.out (Kd.C_below HR1.out HS.out.b) HC1.out HBG.out).mono ?_
        rintro e Wg ⟨rfl, hb⟩
        refine ⟨_, rfl, ?_⟩
        replace HS := Aside0.mk (HS.out.below hb)
        clear hb
        refine hK.out _ _ ⟨HS.out.d, HS.out.o⟩ (fun hHeld => ?_)
        clear hK K
        refine norm_ (a' := ?_) ?_ ?_
        rotate_left
        · show Act.put _ (some 41) _ = _
          simp only [Act.put, List.setIfInBounds_toArray, List.set_cons_zero, List.set_cons_succ, i64_w, i32_w]
          rfl
        refine pure_ (i := 6) (N := some 44) (v := ?_) (a' := ?_) #[true, true, true, true, true, true, true, true, true, false, false, false] rfl rfl (any_of HT_.out (by kernel_rfl)) (fun _ _ _ h => h) (Or.inl ⟨by rfl, ?_⟩) ?_ ?_
        rotate_left
        · intro w'
          go_simp
          with_reducible rfl
        rotate_left
        · simp only [Act.put, List.setIfInBounds_toArray, List.set_cons_zero, List.set_cons_succ, i64_w, i32_w]
          rfl
        refine two_ (i := 9) (j := 10) (Ni := some 47) (Nj := some 8) #[true, true, true, true, true, true, true, true, true, true, false, false] #[true, true, true, true, true, true, true, true, true, false, true, false] rfl rfl rfl rfl (two_of HT_.out (by kernel_rfl)) (by decide) (by decide) (fun K hK => ?_) (fun K hK => ?_)
        · skip
          refine goes_ Try.func25 (by kernel_rfl) rfl #[.agg #[.slice A0 l0.length c0, .slice A1 l1.length c1, .int .i64 a2, .bool a3], .int .i64 (wrap64 (b + u)), .int .i64 nx] (by rfl) rfl rfl (by (try simp only [List.map_toArray, List.map_cons, List.map_nil]); first | done | rfl) ?_
          refine (RRC.out _ HS.out).mono ?_
          rintro e Wh ⟨vr, rfl, ho, hb⟩
          refine ⟨_, rfl, ?_⟩
          have HA := Aside0.mk (HS.out.record ho hb)
          clear ho hb HS
          refine hK.out _ _ ⟨HA.out.d, HA.out.o⟩ (fun hHeld => ?_)
          clear hK K
          refine norm_ (a' := ?_) ?_ ?_
          rotate_left
          · show Act.put _ (some 47) _ = _
            simp only [Act.put, List.setIfInBounds_toArray, List.set_cons_zero, List.set_cons_succ, i64_w, i32_w]
            rfl
          refine one_ (i := 10) (N := some 8) #[true, true, true, true, true, true, true, true, true, true, true, false] rfl rfl (one_of HT_.out (by kernel_rfl)) (by decide) (fun K hK => ?_)
          refine box_step ?hg (N := 8) ?hd (cs := #[.bool false, .slice none 0 0, .int .i64 0]) (t := 49) ?hr ?_; (case hd => rfl); (case hg => rfl); (case hr => first | (go_simp; done) | (go_simp; rfl))
          intro g8 hg Wi hbox hb
          have G8 := Aside0.mk (show w.heap.size ≤ g8 by rw [hg]; exact HA.out.b.size)
          replace HA := Aside0.mk (HA.out.below hb)
          have K8 := Aside0.mk hbox
          clear hb hbox hg
          refine hK.out _ _ ⟨HA.out.d, HA.out.o⟩ (fun hHeld => ?_)
          clear hK K
          refine norm_ (a' := ?_) ?_ ?_
          rotate_left
          · show Act.put _ (some 8) _ = _
            simp only [Act.put, List.setIfInBounds_toArray, List.set_cons_zero, List.set_cons_succ, i64_w, i32_w]
            rfl
          exact norm_ (by simp only [putAll, Act.put, List.setIfInBounds_toArray, List.set_cons_zero, List.set_cons_succ]) (hCont (vr, g8) _ ⟨hHeld, HA.out, K8.out, G8.out⟩)
        · skip
          refine box_step ?hg (N := 8) ?hd (cs := #[.bool false, .slice none 0 0, .int .i64 0]) (t := 49) ?hr ?_; (case hd => rfl); (case hg => rfl); (case hr => first | (go_simp; done) | (go_simp; rfl))
          intro g8 hg Wi hbox hb
          have G8 := Aside0.mk (show w.heap.size ≤ g8 by rw [hg]; exact HS.out.b.size)
          replace HS := Aside0.mk (HS.out.below hb)
          have K8 := Aside0.mk hbox
          clear hb hbox hg
          refine hK.out _ _ ⟨HS.out.d, HS.out.o⟩ (fun hHeld => ?_)
          clear hK K
          refine norm_ (a' := ?_) ?_ ?_
          rotate_left
          · show Act.put _ (some 8) _ = _
            simp only [Act.put, List.setIfInBounds_toArray, List.set_cons_zero, List.set_cons_succ, i64_w, i32_w]
            rfl
          refine one_ (i := 9) (N := some 47) #[true, true, true, true, true, true, true, true, true, true, true, false] rfl rfl (one_of HT_.out (by kernel_rfl)) (by decide) (fun K hK => ?_)
          refine goes_ Try.func25 (by kernel_rfl) rfl #[.agg #[.slice A0 l0.length c0, .slice A1 l1.length c1, .int .i64 a2, .bool a3], .int .i64 (wrap64 (b + u)), .int .i64 nx] (by rfl) rfl rfl (by (try simp only [List.map_toArray, List.map_cons, List.map_nil]); first | done | rfl) ?_
          refine (RRC.out _ HS.out).mono ?_
          rintro e Wh ⟨vr, rfl, ho, hb⟩
          refine ⟨_, rfl, ?_⟩
          have HA := Aside0.mk (HS.out.record ho hb)
          replace K8 := Aside0.mk (blk_below K8.out hb)
          clear ho hb HS
          refine hK.out _ _ ⟨HA.out.d, HA.out.o⟩ (fun hHeld => ?_)
          clear hK K
          refine norm_ (a' := ?_) ?_ ?_
          rotate_left
          · show Act.put _ (some 47) _ = _
            simp only [Act.put, List.setIfInBounds_toArray, List.set_cons_zero, List.set_cons_succ, i64_w, i32_w]
            rfl
          exact norm_ (by simp only [putAll, Act.put, List.setIfInBounds_toArray, List.set_cons_zero, List.set_cons_succ]) (hCont (vr, g8) _ ⟨hHeld, HA.out, K8.out, G8.out⟩)
      · skip
        refine box_step ?hg (N := 8) ?hd (cs := #[.bool false, .slice none 0 0, .int .i64 0]) (t := 49) ?hr ?_; (case hd => rfl); (case hg => rfl); (case hr => first | (go_simp; done) | (go_simp; rfl))
        intro g8 hg Wi hbox hb
        have G8 := Aside0.mk (show w.heap.size ≤ g8 by rw [hg]; exact HS.out.b.size)
        replace HS := Aside0.mk (HS.out.below hb)
        have K8 := Aside0.mk hbox
        clear hb hbox hg
        refine hK.out _ _ ⟨HS.out.d, HS.out.o⟩ (fun hHeld => ?_)
        clear hK K
        refine norm_ (a' := ?_) ?_ ?_
        rotate_left
        · show Act.put _ (some 8) _ = _
          simp only [Act.put, List.setIfInBounds_toArray, List.set_cons_zero, List.set_cons_succ, i64_w, i32_w]
          rfl
        refine one_ (i := 3) (N := some 41) #[true, true, true, true, true, true, false, true, true, false, true, false] rfl rfl (one_of HT_.out (by kernel_rfl)) (by decide) (fun K hK => ?_)
        refine goes_ Try.func89 (by kernel_rfl) rfl #[.agg #[.slice A0 l0.length c0, .slice A1 l1.length c1, .int .i64 a2, .bool a3], .int .i64 ar] (by rfl) rfl rfl (by (try simp only [List.map_toArray, List.map_cons, List.map_nil]); first | done | rfl) ?_
        refine (spec_l2AreaFrom.calls _ _ l0 _ _ l1 a2 a3 ar _ _ (Kd.C_below HR0.out HS.out.b) HC0.out (Kd.C_below HR1.out HS.out.b) HC1.out HBG.out).mono ?_
        rintro e Wg ⟨rfl, hb⟩
        refine ⟨_, rfl, ?_⟩
        replace HS := Aside0.mk (HS.out.below hb)
        replace K8 := Aside0.mk (blk_below K8.out hb)
        clear hb
        refine hK.out _ _ ⟨HS.out.d, HS.out.o⟩ (fun hHeld => ?_)
        clear hK K
        refine norm_ (a' := ?_) ?_ ?_
        rotate_left
        · show Act.put _ (some 41) _ = _
          simp only [Act.put, List.setIfInBounds_toArray, List.set_cons_zero, List.set_cons_succ, i64_w, i32_w]
          rfl
        refine pure_ (i := 6) (N := some 44) (v := ?_) (a' := ?_) #[true, true, true, true, true, true, true, true, true, false, true, false] rfl rfl (any_of HT_.out (by kernel_rfl)) (fun _ _ _ h => h) (Or.inl ⟨by rfl, ?_⟩) ?_ ?_
        rotate_left
        · intro w'
          go_simp
          with_reducible rfl
        rotate_left
        · simp only [Act.put, List.setIfInBounds_toArray, List.set_cons_zero, List.set_cons_succ, i64_w, i32_w]
          rfl
        refine one_ (i := 9) (N := some 47) #[true, true, true, true, true, true, true, true, true, true, true, false] rfl rfl (one_of HT_.out (by kernel_rfl)) (by decide) (fun K hK => ?_)
        refine goes_ Try.func25 (by kernel_rfl) rfl #[.agg #[.slice A0 l0.length c0, .slice A1 l1.length c1, .int .i64 a2, .bool a3], .int .i64 (wrap64 (b + u)), .int .i64 nx] (by rfl) rfl rfl (by (try simp only [List.map_toArray, List.map_cons, List.map_nil]); first | done | rfl) ?_
        refine (RRC.out _ HS.out).mono ?_
        rintro e Wh ⟨vr, rfl, ho, hb⟩
        refine ⟨_, rfl, ?_⟩
        have HA := Aside0.mk (HS.out.record ho hb)
        replace K8 := Aside0.mk (blk_below K8.out hb)
        clear ho hb HS
        refine hK.out _ _ ⟨HA.out.d, HA.out.o⟩ (fun hHeld => ?_)
        clear hK K
        refine norm_ (a' := ?_) ?_ ?_
        rotate_left
        · show Act.put _ (some 47) _ = _
          simp only [Act.put, List.setIfInBounds_toArray, List.set_cons_zero, List.set_cons_succ, i64_w, i32_w]
          rfl
        exact norm_ (by simp only [putAll, Act.put, List.setIfInBounds_toArray, List.set_cons_zero, List.set_cons_succ]) (hCont (vr, g8) _ ⟨hHeld, HA.out, K8.out, G8.out⟩)
    rintro ⟨vr, g8⟩ W5 ⟨hHeld, ha, k8, G8⟩
    dsimp only at ha k8 G8
    have HA := Aside0.mk ha
    have K8 := Aside0.mk k8
    clear ha k8 HS
    obtain ⟨Ar, cr_, rfl⟩ := Kd.R_slice HA.out.p
    refine norm_ (a' := ?_) ?_ ?_
    rotate_left
    · simp only [putAll, Act.put, List.setIfInBounds_toArray, List.set_cons_zero, List.set_cons_succ]
      rfl
    refine one_ (i := 11) (N := none) #[true, true, true, true, true, true, true, true, true, true, true, true] rfl rfl (one_of HT_.out (by kernel_rfl)) (by decide) (fun K hK => ?_)
    have q0 : W5.cell? ⟨g8, 0, none⟩ = some (.bool false) := (blk_cell K8.out 0).trans rfl
    have q1 : W5.cell? ⟨g8, 1, none⟩ = some (.slice none 0 0) := (blk_cell K8.out 1).trans rfl
    have q2 : W5.cell? ⟨g8, 2, none⟩ = some (.int .i64 0) := (blk_cell K8.out 2).trans rfl
    have f0 := blk_frozen K8.out 0
    have f1 := blk_frozen K8.out 1
    have f2 := blk_frozen K8.out 2
    have hst := HA.out.store (rok := rok) (rs := rs) K8.out G8
    replace HA := Aside0.mk hst.1
    replace K8 := Aside0.mk hst.2
    have H8 := Aside0.mk G8
    clear hst G8
    refine skip_ (w1 := ?_) (by rfl) rfl ?_ ?_
    rotate_left
    · go_simp
      rfl
    clear q0 q1 q2 f0 f1 f2
    generalize (((W5.setCell ⟨g8, 0, none⟩ (.bool rok)).setCell ⟨g8, 1, none⟩ (.slice Ar rp.length cr_)).setCell ⟨g8, 2, none⟩ (.int .i64 rs)) = W6 at *
    refine hK.out _ _ ⟨HA.out.d, HA.out.o⟩ (fun hHeld => ?_)
    clear hK K
    refine done_ (done_of HT_.out (by kernel_rfl)) ?_
    clear hHeld
    cases rok with
    | false =>
      have HZ := Aside0.mk (show z = (ok, ps, u, nx) by rw [← HR2.out, if_neg (fun h => by cases h.1)])
      go_wp2_with fail
      refine start_ (n := 13) (S := fun w' => w'.heap[w.heap.size]? = some (.cells #[.slice A0 l0.length c0, .slice A1 l1.length c1, .int .i64 a2, .bool a3] 25 (0, 0)) ∧ w'.heap[g7]? = some (.cells #[.bool ok, v, .int .i64 u, .int .i64 nx] 65 (0, 0)) ∧ w'.heap[g8]? = some (.cells #[.bool false, .slice Ar rp.length cr_, .int .i64 rs] 49 (0, 0))) (ds := []) #[false, false, false, false, false, false, false, false, false, false, false, false, false] (by kernel_rfl) rfl rfl ⟨HA.out.d, HA.out.o, K8.out⟩ (fun hHeld => ?_); refine with_tabW spec_ReadArea.gtab6 spec_ReadArea.gbits6 (fun HT_ HW_ => ?_)
      replace HA := Aside0.mk (HA.out.below (below_drew1 (Below.refl _ _)))
      replace K8 := Aside0.mk (blk_drew K8.out)
      generalize W6.drew = W7 at *
      refine pure_ (i := 0) (N := some 48) (v := ?_) (a' := ?_) #[true, false, false, false, false, false, false, false, false, false, false, false, false] rfl rfl (any_of HT_.out (by kernel_rfl)) (fun _ _ _ h => h) (Or.inl ⟨by rfl, ?_⟩) ?_ ?_
      rotate_left
      · intro w'
        go_simp
        with_reducible rfl
      rotate_left
      · simp only [Act.put, List.setIfInBounds_toArray, List.set_cons_zero, List.set_cons_succ, i64_w, i32_w]
        rfl
      refine take_ (i := 1) (N := some 49) (v := ?_) (a' := ?_) #[true, true, false, false, false, false, false, false, false, false, false, false, false] rfl rfl (take_ofW HT_.out HW_.out (by kernel_rfl)) (fun _ _ _ h => h) (Or.inl ⟨by rfl, ?_⟩) hHeld ?_ ?_
      rotate_left
      · rintro w' ⟨s0, s1, s2⟩
        have q0 : w'.cell? ⟨g8, 0, none⟩ = some (.bool false) := (blk_cell s2 0).trans rfl
        have q2 : w'.cell? ⟨g8, 2, none⟩ = some (.int .i64 rs) := (blk_cell s2 2).trans rfl
        go_simp
        with_reducible rfl
      rotate_left
      · simp only [Act.put, List.setIfInBounds_toArray, List.set_cons_zero, List.set_cons_succ, i64_w, i32_w]
        rfl
      refine pure_ (i := 2) (N := some 50) (v := ?_) (a' := ?_) #[true, true, true, false, false, false, false, false, false, false, false, false, false] rfl rfl (any_of HT_.out (by kernel_rfl)) (fun _ _ _ h => h) (Or.inl ⟨by rfl, ?_⟩) ?_ ?_
      rotate_left
      · intro w'
        go_simp
        with_reducible rfl
      rotate_left
      · simp only [Act.put, List.setIfInBounds_toArray, List.set_cons_zero, List.set_cons_succ, i64_w, i32_w]
        rfl
      refine pure_ (i := 3) (N := some 51) (v := ?_) (a' := ?_) #[true, true, true, true, false, false, false, false, false, false, false, false, false] rfl rfl (any_of HT_.out (by kernel_rfl)) (fun _ _ _ h => h) (Or.inl ⟨by rfl, ?_⟩) ?_ ?_
      rotate_left
      · intro w'
        go_simp
        with_reducible rfl
      rotate_left
      · simp only [Act.put, List.setIfInBounds_toArray, List.set_cons_zero, List.set_cons_succ, i64_w, i32_w]
        rfl
      refine pure_ (i := 4) (N := some 52) (v := undef) (a' := ?_) #[true, true, true, true, true, false, false, false, false, false, false, false, false] rfl rfl (any_of HT_.out (by kernel_rfl)) (fun _ _ _ h => h) (Or.inr ⟨by rfl, rfl⟩) ?_ ?_
      rotate_left
      · simp only [Act.put, List.setIfInBounds_toArray, List.set_cons_zero, List.set_cons_succ, i64_w, i32_w]
        rfl
      refine pure_ (i := 5) (N := some 53) (v := undef) (a' := ?_) #[true, true, true, true, true, true, false, false, false, false, false, false, false] rfl rfl (any_of HT_.out (by kernel_rfl)) (fun _ _ _ h => h) (Or.inr ⟨by rfl, rfl⟩) ?_ ?_
      rotate_left
      · simp only [Act.put, List.setIfInBounds_toArray, List.set_cons_zero, List.set_cons_succ, i64_w, i32_w]
        rfl
      refine pure_ (i := 6) (N := some 54) (v := undef) (a' := ?_) #[true, true, true, true, true, true, true, false, false, false, false, false, false] rfl rfl (any_of HT_.out (by kernel_rfl)) (fun _ _ _ h => h) (Or.inr ⟨by rfl, rfl⟩) ?_ ?_
      rotate_left
      · simp only [Act.put, List.setIfInBounds_toArray, List.set_cons_zero, List.set_cons_succ, i64_w, i32_w]
        rfl
      refine pure_ (i := 7) (N := some 55) (v := undef) (a' := ?_) #[true, true, true, true, true, true, true, true, false, false, false, false, false] rfl rfl (any_of HT_.out (by kernel_rfl)) (fun _ _ _ h => h) (Or.inr ⟨by rfl, rfl⟩) ?_ ?_
      rotate_left
      · simp only [Act.put, List.setIfInBounds_toArray, List.set_cons_zero, List.set_cons_succ, i64_w, i32_w]
        rfl
      refine pure_ (i := 8) (N := some 56) (v := undef) (a' := ?_) #[true, true, true, true, true, true, true, true, true, false, false, false, false] rfl rfl (any_of HT_.out (by kernel_rfl)) (fun _ _ _ h => h) (Or.inr ⟨by rfl, rfl⟩) ?_ ?_
      rotate_left
      · simp only [Act.put, List.setIfInBounds_toArray, List.set_cons_zero, List.set_cons_succ, i64_w, i32_w]
        rfl
      refine pure_ (i := 9) (N := some 57) (v := undef) (a' := ?_) #[true, true, true, true, true, true, true, true, true, true, false, false, false] rfl rfl (any_of HT_.out (by kernel_rfl)) (fun _ _ _ h => h) (Or.inr ⟨by rfl, rfl⟩) ?_ ?_
      rotate_left
      · simp only [Act.put, List.setIfInBounds_toArray, List.set_cons_zero, List.set_cons_succ, i64_w, i32_w]
        rfl
      refine pure_ (i := 10) (N := some 58) (v := undef) (a' := ?_) #[true, true, true, true, true, true, true, true, true, true, true, false, false] rfl rfl (any_of HT_.out (by kernel_rfl)) (fun _ _ _ h => h) (Or.inr ⟨by rfl, rfl⟩) ?_ ?_
      rotate_left
      · simp only [Act.put, List.setIfInBounds_toArray, List.set_cons_zero, List.set_cons_succ, i64_w, i32_w]
        rfl
      refine pure_ (i := 11) (N := some 59) (v := undef) (a' := ?_) #[true, true, true, true, true, true, true, true, true, true, true, true, false] rfl rfl (any_of HT_.out (by kernel_rfl)) (fun _ _ _ h => h) (Or.inr ⟨by rfl, rfl⟩) ?_ ?_
      rotate_left
      · simp only [Act.put, List.setIfInBounds_toArray, List.set_cons_zero, List.set_cons_succ, i64_w, i32_w]
        rfl
      refine pure_ (i := 12) (N := some 60) (v := ?_) (a' := ?_) #[true, true, true, true, true, true, true, true, true, true, true, true, true] rfl rfl (any_of HT_.out (by kernel_rfl)) (fun _ _ _ h => h) (Or.inl ⟨by rfl, ?_⟩) ?_ ?_
      rotate_left
      · intro w'
        go_simp
        with_reducible rfl
      rotate_left
      · simp only [Act.put, List.setIfInBounds_toArray, List.set_cons_zero, List.set_cons_succ, i64_w, i32_w]
        rfl
      refine done_ (done_of HT_.out (by kernel_rfl)) ?_
      have HS := Aside0.mk HA.out.forget
      clear HA
      obtain ⟨o0, o1, o2, o3, _, _, _, _⟩ := blk_cells4 HS.out.o
      obtain ⟨z0, z1, z2, z3, y0, y1, y2, y3⟩ := blk_cells4 HS.out.r
      have hn67 : w.heap.size + 1 ≠ g7 := Nat.ne_of_lt HS.out.l
      cases ok with
      | true =>
        have em := Aside0.mk (show mRA l0 l1 a2 ar fs = (true, ps, u, nx) by rw [HM.out, HZ.out]; rfl)
        obtain ⟨Av, cv_, rfl⟩ := Kd.S_slice HS.out.s
        go_wp2_with fail
        have B1 := blk_put (cs' := #[.bool true, .slice none 0 0, .int .i64 0, .int .i64 0]) HS.out.r 0 (.bool true) rfl
        have B2 := blk_put (cs' := #[.bool true, .slice Av ps.length cv_, .int .i64 0, .int .i64 0]) B1 1 (.slice Av ps.length cv_) rfl
        have B3 := blk_put (cs' := #[.bool true, .slice Av ps.length cv_, .int .i64 u, .int .i64 0]) B2 2 (.int .i64 u) rfl
        have B4 := blk_put (cs' := #[.bool true, .slice Av ps.length cv_, .int .i64 u, .int .i64 nx]) B3 3 (.int .i64 nx) rfl
        refine bodyPost_ret (results_cell_row rfl _ _ (w.heap.size + 1) 65 #[.bool true, .slice Av ps.length cv_, .int .i64 u, .int .i64 nx] (0, 0) _ rfl B4 hu65 rfl (by kernel_rfl)) rfl ?_
        rw [em.out]
        exact ⟨_, rfl, Kd.S_set (Kd.S_set (Kd.S_set (Kd.S_set HS.out.s HS.out.r (by decide) 0 _) B1 (by decide) 1 _) B2 (by decide) 2 _) B3 (by decide) 3 _, below_set (below_set (below_set (below_set HS.out.b (Nat.le_succ _)) (Nat.le_succ _)) (Nat.le_succ _)) (Nat.le_succ _)⟩
      | false =>
        have em := Aside0.mk (show mRA l0 l1 a2 ar fs = (false, [], 0, 0) by rw [HM.out, HZ.out]; rfl)
        go_wp2_with fail
        refine bodyPost_ret (results_cell_row rfl _ _ (w.heap.size + 1) 65 #[.bool false, .slice none 0 0, .int .i64 0, .int .i64 0] (0, 0) _ rfl (blk_put (cs := #[.bool false, .slice none 0 0, .int .i64 0, .int .i64 0]) (blk_put (cs := #[.bool false, .slice none 0 0, .int .i64 0, .int .i64 0]) (blk_put (cs := #[.bool false, .slice none 0 0, .int .i64 0, .int .i64 0]) (blk_put (cs := #[.bool false, .slice none 0 0, .int .i64 0, .int .i64 0]) HS.out.r 0 _ rfl) 1 _ rfl) 2 _ rfl) 3 _ rfl) hu65 rfl (by kernel_rfl)) rfl ?_
        exact ra_zero em.out HS.out.b
    | true =>
      have hw2 : wrap64 (u + rs) = u + rs := by
        have h1 := HI.out
        have h2 := HBD.out rfl
        have h3 := HAB.out
        unfold wrap64
        omega
      by_cases co : u + rs > a
      · have cob : decide (a < wrap64 (u + rs)) = true := decide_eq_true (by rw [hw2]; exact co)
        have HZ := Aside0.mk (show z = (ok, ps, u, nx) by rw [← HR2.out, if_neg (fun h => h.2 co)])
        clear co hw2
        go_wp2_with fail
        refine start_ (n := 13) (S := fun w' => w'.heap[w.heap.size]? = some (.cells #[.slice A0 l0.length c0, .slice A1 l1.length c1, .int .i64 a2, .bool a3] 25 (0, 0)) ∧ w'.heap[g7]? = some (.cells #[.bool ok, v, .int .i64 u, .int .i64 nx] 65 (0, 0)) ∧ w'.heap[g8]? = some (.cells #[.bool true, .slice Ar rp.length cr_, .int .i64 rs] 49 (0, 0))) (ds := []) #[false, false, false, false, false, false, false, false, false, false, false, false, false] (by kernel_rfl) rfl rfl ⟨HA.out.d, HA.out.o, K8.out⟩ (fun hHeld => ?_); refine with_tabW spec_ReadArea.gtab6 spec_ReadArea.gbits6 (fun HT_ HW_ => ?_)
        replace HA := Aside0.mk (HA.out.below (below_drew1 (Below.refl _ _)))
        replace K8 := Aside0.mk (blk_drew K8.out)
        generalize W6.drew = W7 at *
        refine pure_ (i := 0) (N := some 48) (v := ?_) (a' := ?_) #[true, false, false, false, false, false, false, false, false, false, false, false, false] rfl rfl (any_of HT_.out (by kernel_rfl)) (fun _ _ _ h => h) (Or.inl ⟨by rfl, ?_⟩) ?_ ?_
        rotate_left
        · intro w'
          go_simp
          with_reducible rfl
        rotate_left
        · simp only [Act.put, List.setIfInBounds_toArray, List.set_cons_zero, List.set_cons_succ, i64_w, i32_w]
          rfl
        refine take_ (i := 1) (N := some 49) (v := ?_) (a' := ?_) #[true, true, false, false, false, false, false, false, false, false, false, false, false] rfl rfl (take_ofW HT_.out HW_.out (by kernel_rfl)) (fun _ _ _ h => h) (Or.inl ⟨by rfl, ?_⟩) hHeld ?_ ?_
        rotate_left
        · rintro w' ⟨s0, s1, s2⟩
          have q0 : w'.cell? ⟨g8, 0, none⟩ = some (.bool true) := (blk_cell s2 0).trans rfl
          have q2 : w'.cell? ⟨g8, 2, none⟩ = some (.int .i64 rs) := (blk_cell s2 2).trans rfl
          go_simp
          with_reducible rfl
        rotate_left
        · simp only [Act.put, List.setIfInBounds_toArray, List.set_cons_zero, List.set_cons_succ, i64_w, i32_w]
          rfl
        refine pure_ (i := 2) (N := some 50) (v := ?_) (a' := ?_) #[true, true, true, false, false, false, false, false, false, false, false, false, false] rfl rfl (any_of HT_.out (by kernel_rfl)) (fun _ _ _ h => h) (Or.inl ⟨by rfl, ?_⟩) ?_ ?_
        rotate_left
        · intro w'
          go_simp
          with_reducible rfl
        rotate_left
        · simp only [Act.put, List.setIfInBounds_toArray, List.set_cons_zero, List.set_cons_succ, i64_w, i32_w]
          rfl
        refine pure_ (i := 3) (N := some 51) (v := ?_) (a' := ?_) #[true, true, true, true, false, false, false, false, false, false, false, false, false] rfl rfl (any_of HT_.out (by kernel_rfl)) (fun _ _ _ h => h) (Or.inl ⟨by rfl, ?_⟩) ?_ ?_
        rotate_left
        · intro w'
          go_simp
          with_reducible rfl
        rotate_left
        · simp only [Act.put, List.setIfInBounds_toArray, List.set_cons_zero, List.set_cons_succ, i64_w, i32_w]
          rfl
        refine pure_ (i := 4) (N := some 52) (v := ?_) (a' := ?_) #[true, true, true, true, true, false, false, false, false, false, false, false, false] rfl rfl (any_of HT_.out (by kernel_rfl)) (fun _ _ _ h => h) (Or.inl ⟨by rfl, ?_⟩) ?_ ?_
        rotate_left
        · intro w'
          go_simp
          with_reducible rfl
        rotate_left
        · simp only [Act.put, List.setIfInBounds_toArray, List.set_cons_zero, List.set_cons_succ, i64_w, i32_w]
          rfl
        refine take_ (i := 5) (N := some 53) (v := ?_) (a' := ?_) #[true, true, true, true, true, true, false, false, false, false, false, false, false] rfl rfl (take_ofW HT_.out HW_.out (by kernel_rfl)) (fun _ _ _ h => h) (Or.inl ⟨by rfl, ?_⟩) hHeld ?_ ?_
        rotate_left
        · rintro w' ⟨s0, s1, s2⟩
          obtain ⟨o0, o1, o2, o3, _, _, _, _⟩ := blk_cells4 s1
          go_simp
          with_reducible rfl
        rotate_left
        · simp only [Act.put, List.setIfInBounds_toArray, List.set_cons_zero, List.set_cons_succ, i64_w, i32_w]
          rfl
        refine pure_ (i := 6) (N := some 54) (v := ?_) (a' := ?_) #[true, true, true, true, true, true, true, false, false, false, false, false, false] rfl rfl (any_of HT_.out (by kernel_rfl)) (fun _ _ _ h => h) (Or.inl ⟨by rfl, ?_⟩) ?_ ?_
        rotate_left
        · intro w'
          go_simp
          with_reducible rfl
        rotate_left
        · simp only [Act.put, List.setIfInBounds_toArray, List.set_cons_zero, List.set_cons_succ, i64_w, i32_w]
          rfl
        refine take_ (i := 7) (N := some 55) (v := ?_) (a' := ?_) #[true, true, true, true, true, true, true, true, false, false, false, false, false] rfl rfl (take_ofW HT_.out HW_.out (by kernel_rfl)) (fun _ _ _ h => h) (Or.inl ⟨by rfl, ?_⟩) hHeld ?_ ?_
        rotate_left
        · rintro w' ⟨s0, s1, s2⟩
          have q0 : w'.cell? ⟨g8, 0, none⟩ = some (.bool true) := (blk_cell s2 0).trans rfl
          have q2 : w'.cell? ⟨g8, 2, none⟩ = some (.int .i64 rs) := (blk_cell s2 2).trans rfl
          go_simp
          with_reducible rfl
        rotate_left
        · simp only [Act.put, List.setIfInBounds_toArray, List.set_cons_zero, List.set_cons_succ, i64_w, i32_w]
          rfl
        refine pure_ (i := 8) (N := some 56) (v := ?_) (a' := ?_) #[true, true, true, true, true, true, true, true, true, false, false, false, false] rfl rfl (any_of HT_.out (by kernel_rfl)) (fun _ _ _ h => h) (Or.inl ⟨by rfl, ?_⟩) ?_ ?_
        rotate_left
        · intro w'
          go_simp
          with_reducible rfl
        rotate_left
        · simp only [Act.put, List.setIfInBounds_toArray, List.set_cons_zero, List.set_cons_succ, i64_w, i32_w]
          rfl
        refine take_ (i := 9) (N := some 57) (v := ?_) (a' := ?_) #[true, true, true, true, true, true, true, true, true, true, false, false, false] rfl rfl (take_ofW HT_.out HW_.out (by kernel_rfl)) (fun _ _ _ h => h) (Or.inl ⟨by rfl, ?_⟩) hHeld ?_ ?_
        rotate_left
        · rintro w' ⟨s0, s1, s2⟩
          obtain ⟨x0, x1, x2, x3, _, _, _, _⟩ := blk_cells4 s0
          go_simp
          with_reducible rfl
        rotate_left
        · simp only [Act.put, List.setIfInBounds_toArray, List.set_cons_zero, List.set_cons_succ, i64_w, i32_w]
          rfl
        refine one_ (i := 10) (N := some 58) #[true, true, true, true, true, true, true, true, true, true, true, false, false] rfl rfl (one_of HT_.out (by kernel_rfl)) (by decide) (fun K hK => ?_)
        refine goes_ Try.func88 (by kernel_rfl) rfl #[.agg #[.slice A0 l0.length c0, .slice A1 l1.length c1, .int .i64 a2, .bool a3]] (by rfl) rfl rfl (by (try simp only [List.map_toArray, List.map_cons, List.map_nil]); first | done | rfl) ?_
        refine (spec_l2AreaSize.calls _ _ l0 _ _ l1 a2 a3 _ _ (Kd.C_below HR0.out HA.out.b) HC0.out (Kd.C_below HR1.out HA.out.b) HC1.out HAR.out).mono ?_
        rintro e We ⟨rfl, hb⟩
        refine ⟨_, rfl, ?_⟩
        replace HA := Aside0.mk (HA.out.below hb)
        replace K8 := Aside0.mk (blk_below K8.out hb)
        clear hb
        refine hK.out _ _ ⟨HA.out.d, HA.out.o, K8.out⟩ (fun hHeld => ?_)
        clear hK K
        refine norm_ (a' := ?_) ?_ ?_
        rotate_left
        · show Act.put _ (some 58) _ = _
          simp only [Act.put, List.setIfInBounds_toArray, List.set_cons_zero, List.set_cons_succ, i64_w, i32_w]
          rfl
        refine pure_ (i := 11) (N := some 59) (v := ?_) (a' := ?_) #[true, true, true, true, true, true, true, true, true, true, true, true, false] rfl rfl (any_of HT_.out (by kernel_rfl)) (fun _ _ _ h => h) (Or.inl ⟨by rfl, ?_⟩) ?_ ?_
        rotate_left
        · intro w'
          go_simp
          with_reducible rfl
        rotate_left
        · simp only [Act.put, List.setIfInBounds_toArray, List.set_cons_zero, List.set_cons_succ, i64_w, i32_w]
          rfl
        refine pure_ (i := 12) (N := some 60) (v := ?_) (a' := ?_) #[true, true, true, true, true, true, true, true, true, true, true, true, true] rfl rfl (any_of HT_.out (by kernel_rfl)) (fun _ _ _ h => h) (Or.inl ⟨by rfl, ?_⟩) ?_ ?_
        rotate_left
        · intro w'
          go_simp
          with_reducible rfl
        rotate_left
        · simp only [Act.put, List.setIfInBounds_toArray, List.set_cons_zero, List.set_cons_succ, i64_w, i32_w]
          rfl
        refine done_ (done_of HT_.out (by kernel_rfl)) ?_
        have HS := Aside0.mk HA.out.forget
        clear HA
        obtain ⟨o0, o1, o2, o3, _, _, _, _⟩ := blk_cells4 HS.out.o
        obtain ⟨z0, z1, z2, z3, y0, y1, y2, y3⟩ := blk_cells4 HS.out.r
        have hn67 : w.heap.size + 1 ≠ g7 := Nat.ne_of_lt HS.out.l
        cases ok with
        | true =>
          have em := Aside0.mk (show mRA l0 l1 a2 ar fs = (true, ps, u, nx) by rw [HM.out, HZ.out]; rfl)
          obtain ⟨Av, cv_, rfl⟩ := Kd.S_slice HS.out.s
          go_wp2_with fail
          have B1 := blk_put (cs' := #[.bool true, .slice none 0 0, .int .i64 0, .int .i64 0]) HS.out.r 0 (.bool true) rfl
          have B2 := blk_put (cs' := #[.bool true, .slice Av ps.length cv_, .int .i64 0, .int .i64 0]) B1 1 (.slice Av ps.length cv_) rfl
          have B3 := blk_put (cs' := #[.bool true, .slice Av ps.length cv_, .int .i64 u, .int .i64 0]) B2 2 (.int .i64 u) rfl
          have B4 := blk_put (cs' := #[.bool true, .slice Av ps.length cv_, .int .i64 u, .int .i64 nx]) B3 3 (.int .i64 nx) rfl
          refine bodyPost_ret (results_cell_row rfl _ _ (w.heap.size + 1) 65 #[.bool true, .slice Av ps.length cv_, .int .i64 u, .int .i64 nx] (0, 0) _ rfl B4 hu65 rfl (by kernel_rfl)) rfl ?_
          rw [em.out]
          exact ⟨_, rfl, Kd.S_set (Kd.S_set (Kd.S_set (Kd.S_set HS.out.s HS.out.r (by decide) 0 _) B1 (by decide) 1 _) B2 (by decide) 2 _) B3 (by decide) 3 _, below_set (below_set (below_set (below_set HS.out.b (Nat.le_succ _)) (Nat.le_succ _)) (Nat.le_succ _)) (Nat.le_succ _)⟩
        | false =>
          have em := Aside0.mk (show mRA l0 l1 a2 ar fs = (false, [], 0, 0) by rw [HM.out, HZ.out]; rfl)
          go_wp2_with fail
          refine bodyPost_ret (results_cell_row rfl _ _ (w.heap.size + 1) 65 #[.bool false, .slice none 0 0, .int .i64 0, .int .i64 0] (0, 0) _ rfl (blk_put (cs := #[.bool false, .slice none 0 0, .int .i64 0, .int .i64 0]) (blk_put (cs := #[.bool false, .slice none 0 0, .int .i64 0, .int .i64 0]) (blk_put (cs := #[.bool false, .slice none 0 0, .int .i64 0, .int .i64 0]) (blk_put (cs := #[.bool false, .slice none 0 0, .int .i64 0, .int .i64 0]) HS.out.r 0 _ rfl) 1 _ rfl) 2 _ rfl) 3 _ rfl) hu65 rfl (by kernel_rfl)) rfl ?_
          exact ra_zero em.out HS.out.b
      have cob : decide (a < wrap64 (u + rs)) = false := decide_eq_false (by rw [hw2]; exact co)
      have hnx : nx ≤ 2000000000 := by
        unfold gN at cn
        simp at cn
        omega
      have hw3 : wrap64 (nx + 1) = nx + 1 := by
        have h1 := HI.out
        unfold wrap64
        omega
      have HW2 := Aside0.mk hw2
      have HW3 := Aside0.mk hw3
      have HNX := Aside0.mk hnx
      have HZ := Aside0.mk (show raF (rrOf l0 l1 a2) b a m true (ps ++ [⟨rp⟩]) (u + rs) (nx + 1) = z by rw [← HR2.out, if_pos ⟨rfl, co⟩])
      have HCO := Aside0.mk co
      clear co hw2 hw3 hnx cn
      go_wp2_with fail
      refine start_ (n := 13) (S := fun w' => w'.heap[w.heap.size]? = some (.cells #[.slice A0 l0.length c0, .slice A1 l1.length c1, .int .i64 a2, .bool a3] 25 (0, 0)) ∧ w'.heap[g7]? = some (.cells #[.bool ok, v, .int .i64 u, .int .i64 nx] 65 (0, 0)) ∧ w'.heap[g8]? = some (.cells #[.bool true, .slice Ar rp.length cr_, .int .i64 rs] 49 (0, 0))) (ds := []) #[false, false, false, false, false, false, false, false, false, false, false, false, false] (by kernel_rfl) rfl rfl ⟨HA.out.d, HA.out.o, K8.out⟩ (fun hHeld => ?_); refine with_tabW spec_ReadArea.gtab6 spec_ReadArea.gbits6 (fun HT_ HW_ => ?_)
      replace HA := Aside0.mk (HA.out.below (below_drew1 (Below.refl _ _)))
      replace K8 := Aside0.mk (blk_drew K8.out)
      generalize W6.drew = W7 at *
      refine pure_ (i := 0) (N := some 48) (v := ?_) (a' := ?_) #[true, false, false, false, false, false, false, false, false, false, false, false, false] rfl rfl (any_of HT_.out (by kernel_rfl)) (fun _ _ _ h => h) (Or.inl ⟨by rfl, ?_⟩) ?_ ?_
      rotate_left
      · intro w'
        go_simp
        with_reducible rfl
      rotate_left
      · simp only [Act.put, List.setIfInBounds_toArray, List.set_cons_zero, List.set_cons_succ, i64_w, i32_w]
        rfl
      refine take_ (i := 1) (N := some 49) (v := ?_) (a' := ?_) #[true, true, false, false, false, false, false, false, false, false, false, false, false] rfl rfl (take_ofW HT_.out HW_.out (by kernel_rfl)) (fun _ _ _ h => h) (Or.inl ⟨by rfl, ?_⟩) hHeld ?_ ?_
      rotate_left
      · rintro w' ⟨s0, s1, s2⟩
        have q0 : w'.cell? ⟨g8, 0, none⟩ = some (.bool true) := (blk_cell s2 0).trans rfl
        have q2 : w'.cell? ⟨g8, 2, none⟩ = some (.int .i64 rs) := (blk_cell s2 2).trans rfl
        go_simp
        with_reducible rfl
      rotate_left
      · simp only [Act.put, List.setIfInBounds_toArray, List.set_cons_zero, List.set_cons_succ, i64_w, i32_w]
        rfl
      refine pure_ (i := 2) (N := some 50) (v := ?_) (a' := ?_) #[true, true, true, false, false, false, false, false, false, false, false, false, false] rfl rfl (any_of HT_.out (by kernel_rfl)) (fun _ _ _ h => h) (Or.inl ⟨by rfl, ?_⟩) ?_ ?_
      rotate_left
      · intro w'
        go_simp
        with_reducible rfl
      rotate_left
      · simp only [Act.put, List.setIfInBounds_toArray, List.set_cons_zero, List.set_cons_succ, i64_w, i32_w]
        rfl
      refine pure_ (i := 3) (N := some 51) (v := ?_) (a' := ?_) #[true, true, true, true, false, false, false, false, false, false, false, false, false] rfl rfl (any_of HT_.out (by kernel_rfl)) (fun _ _ _ h => h) (Or.inl ⟨by rfl, ?_⟩) ?_ ?_
      rotate_left
      · intro w'
        go_simp
        with_reducible rfl
      rotate_left
      · simp only [Act.put, List.setIfInBounds_toArray, List.set_cons_zero, List.set_cons_succ, i64_w, i32_w]
        rfl
      refine pure_ (i := 4) (N := some 52) (v := ?_) (a' := ?_) #[true, true, true, true, true, false, false, false, false, false, false, false, false] rfl rfl (any_of HT_.out (by kernel_rfl)) (fun _ _ _ h => h) (Or.inl ⟨by rfl, ?_⟩) ?_ ?_
      rotate_left
      · intro w'
        go_simp
        with_reducible rfl
      rotate_left
      · simp only [Act.put, List.setIfInBounds_toArray, List.set_cons_zero, List.set_cons_succ, i64_w, i32_w]
        rfl
      refine take_ (i := 5) (N := some 53) (v := ?_) (a' := ?_) #[true, true, true, true, true, true, false, false, false, false, false, false, false] rfl rfl (take_ofW HT_.out HW_.out (by kernel_rfl)) (fun _ _ _ h => h) (Or.inl ⟨by rfl, ?_⟩) hHeld ?_ ?_
      rotate_left
      · rintro w' ⟨s0, s1, s2⟩
        obtain ⟨o0, o1, o2, o3, _, _, _, _⟩ := blk_cells4 s1
        go_simp
        with_reducible rfl
      rotate_left
      · simp only [Act.put, List.setIfInBounds_toArray, List.set_cons_zero, List.set_cons_succ, i64_w, i32_w]
        rfl
      refine pure_ (i := 6) (N := some 54) (v := ?_) (a' := ?_) #[true, true, true, true, true, true, true, false, false, false, false, false, false] rfl rfl (any_of HT_.out (by kernel_rfl)) (fun _ _ _ h => h) (Or.inl ⟨by rfl, ?_⟩) ?_ ?_
      rotate_left
      · intro w'
        go_simp
        with_reducible rfl
      rotate_left
      · simp only [Act.put, List.setIfInBounds_toArray, List.set_cons_zero, List.set_cons_succ, i64_w, i32_w]
        rfl
      refine take_ (i := 7) (N := some 55) (v := ?_) (a' := ?_) #[true, true, true, true, true, true, true, true, false, false, false, false, false] rfl rfl (take_ofW HT_.out HW_.out (by kernel_rfl)) (fun _ _ _ h => h) (Or.inl ⟨by rfl, ?_⟩) hHeld ?_ ?_
      rotate_left
      · rintro w' ⟨s0, s1, s2⟩
        have q0 : w'.cell? ⟨g8, 0, none⟩ = some (.bool true) := (blk_cell s2 0).trans rfl
        have q2 : w'.cell? ⟨g8, 2, none⟩ = some (.int .i64 rs) := (blk_cell s2 2).trans rfl
        go_simp
        with_reducible rfl
      rotate_left
      · simp only [Act.put, List.setIfInBounds_toArray, List.set_cons_zero, List.set_cons_succ, i64_w, i32_w]
        rfl
      refine pure_ (i := 8) (N := some 56) (v := ?_) (a' := ?_) #[true, true, true, true, true, true, true, true, true, false, false, false, false] rfl rfl (any_of HT_.out (by kernel_rfl)) (fun _ _ _ h => h) (Or.inl ⟨by rfl, ?_⟩) ?_ ?_
      rotate_left
      · intro w'
        go_simp
        with_reducible rfl
      rotate_left
      · simp only [Act.put, List.setIfInBounds_toArray, List.set_cons_zero, List.set_cons_succ, i64_w, i32_w]
        rfl
      refine take_ (i := 9) (N := some 57) (v := ?_) (a' := ?_) #[true, true, true, true, true, true, true, true, true, true, false, false, false] rfl rfl (take_ofW HT_.out HW_.out (by kernel_rfl)) (fun _ _ _ h => h) (Or.inl ⟨by rfl, ?_⟩) hHeld ?_ ?_
      rotate_left
      · rintro w' ⟨s0, s1, s2⟩
        obtain ⟨x0, x1, x2, x3, _, _, _, _⟩ := blk_cells4 s0
        go_simp
        with_reducible rfl
      rotate_left
      · simp only [Act.put, List.setIfInBounds_toArray, List.set_cons_zero, List.set_cons_succ, i64_w, i32_w]
        rfl
      refine one_ (i := 10) (N := some 58) #[true, true, true, true, true, true, true, true, true, true, true, false, false] rfl rfl (one_of HT_.out (by kernel_rfl)) (by decide) (fun K hK => ?_)
      refine goes_ Try.func88 (by kernel_rfl) rfl #[.agg #[.slice A0 l0.length c0, .slice A1 l1.length c1, .int .i64 a2, .bool a3]] (by rfl) rfl rfl (by (try simp only [List.map_toArray, List.map_cons, List.map_nil]); first | done | rfl) ?_
      refine (spec_l2AreaSize.calls _ _ l0 _ _ l1 a2 a3 _ _ (Kd.C_below HR0.out HA.out.b) HC0.out (Kd.C_below HR1.out HA.out.b) HC1.out HAR.out).mono ?_
      rintro e We ⟨rfl, hb⟩
      refine ⟨_, rfl, ?_⟩
      replace HA := Aside0.mk (HA.out.below hb)
      replace K8 := Aside0.mk (blk_below K8.out hb)
      clear hb
      refine hK.out _ _ ⟨HA.out.d, HA.out.o, K8.out⟩ (fun hHeld => ?_)
      clear hK K
      refine norm_ (a' := ?_) ?_ ?_
      rotate_left
      · show Act.put _ (some 58) _ = _
        simp only [Act.put, List.setIfInBounds_toArray, List.set_cons_zero, List.set_cons_succ, i64_w, i32_w]
        rfl
      refine pure_ (i := 11) (N := some 59) (v := ?_) (a' := ?_) #[true, true, true, true, true, true, true, true, true, true, true, true, false] rfl rfl (any_of HT_.out (by kernel_rfl)) (fun _ _ _ h => h) (Or.inl ⟨by rfl, ?_⟩) ?_ ?_
      rotate_left
      · intro w'
        go_simp
        with_reducible rfl
      rotate_left
      · simp only [Act.put, List.setIfInBounds_toArray, List.set_cons_zero, List.set_cons_succ, i64_w, i32_w]
        rfl
      refine pure_ (i := 12) (N := some 60) (v := ?_) (a' := ?_) #[true, true, true, true, true, true, true, true, true, true, true, true, true] rfl rfl (any_of HT_.out (by kernel_rfl)) (fun _ _ _ h => h) (Or.inl ⟨by rfl, ?_⟩) ?_ ?_
      rotate_left
      · intro w'
        go_simp
        with_reducible rfl
      rotate_left
      · simp only [Act.put, List.setIfInBounds_toArray, List.set_cons_zero, List.set_cons_succ, i64_w, i32_w]
        rfl
      refine done_ (done_of HT_.out (by kernel_rfl)) ?_
      obtain ⟨o0, o1, o2, o3, e0, e1, e2, e3⟩ := blk_cells4 HA.out.o
      go_wp2_with (
        first
        | ((with_reducible refine gate_store (t := 4) (p := 61) rfl ?_); refine store_event (t := 4) (p := 61) (v := ?vo_w98) (w1 := (We.setCell ⟨g7, 0, none⟩ (.bool true))) ?hg ?ho ?hn ?hr ?_; (case ho => rfl); (case hg => rfl); (case hn => rfl); (case hr => first | (go_simp; done) | (go_simp; rfl)); intro W8 hw8; have hst := HA.out.true K8.out; rw [← hw8] at hst; clear hw8 o0 o1 o2 o3 e0 e1 e2 e3; replace HA := Aside0.mk hst.1; replace K8 := Aside0.mk hst.2; clear hst; obtain ⟨o0, o1, o2, o3, e0, e1, e2, e3⟩ := blk_cells4 HA.out.o; have q1 : W8.cell? ⟨g8, 1, none⟩ = some (.slice Ar rp.length cr_) := (blk_cell K8.out 1).trans rfl)
        | (
          (with_reducible refine gate_builtin (b := .append) (xs := #[.tmp 63, .tmp 67]) rfl ?_)
          at_builtin
          refine Kd.S_append k111 (w0 := w) w.heap.size rfl (.tmp 63) (.tmp 67) 63 111 (.agg #[(.slice none 0 0)]) 24 rfl Try.underlying63 info111 rfl (by decide) (by omega) v ps (⟨rp⟩ : S111) [.slice Ar rp.length cr_] (fun _ => True) (fun k_ => some k_ = (.slice Ar rp.length cr_ : Value).ownBlock) rfl rfl ?aP (fun k_ hk_ => (HA.out.apart).1 k_ hk_.symm) ?aF ?aO ?aB ?aS ?aL ?_
          (case aP => exact k111_mkM _ _ _ (⟨rp⟩ : S111) (Kd.R_mono (Kd.R_tight rfl HA.out.apart) (fun _ h_ => h_)))
          (case aB => exact HA.out.b)
          (case aF => exact (fun _ _ => trivial))
          (case aO => exact Kd.S_mono HA.out.s (fun k_ hk => ⟨trivial, fun e_ => hk e_⟩))
          (case aS => exact HA.out.b.size)
          (case aL => have h1 := HI.out; have h2 := HAB.out; omega)
          intro v10 W9 ho hb hg hat
          have M3 := Aside0.mk (blk_grown HA.out.d hg (Kd.S_ne HA.out.s HA.out.d (by decide)))
          have M6 := Aside0.mk (blk_grown HA.out.r hg (Kd.S_ne HA.out.s HA.out.r (by decide)))
          have M7 := Aside0.mk (blk_grown HA.out.o hg (Kd.S_ne HA.out.s HA.out.o (by decide)))
          have M8 := Aside0.mk (blk_grown K8.out hg (Kd.S_ne HA.out.s K8.out (by decide)))
          have HO := Aside0.mk ho
          have HBn := Aside0.mk hb
          have hn7 := HA.out.l
          clear ho hb hg hat o0 o1 o2 o3 e0 e1 e2 e3 q1 K8
          obtain ⟨Aw, cw, ev⟩ := Kd.S_slice HO.out
          subst ev
          obtain ⟨o0, o1, o2, o3, e0, e1, e2, e3⟩ := blk_cells4 M7.out
          have q2 : W9.cell? ⟨g8, 2, none⟩ = some (.int .i64 rs) := (blk_cell M8.out 2).trans rfl
          have hn78 : g7 ≠ g8 := blk_dif M7.out M8.out (by decide)
          have hn87 : g8 ≠ g7 := fun h => hn78 h.symm))
      go_roundg m
      case measure => omega
      case rel =>
        have hbd := HBD.out (by trivial)
        have hi := HI.out
        have hco := HCO.out
        have hnx := HNX.out
        exact ⟨true, ps ++ [⟨rp⟩], wrap64 (u + rs), wrap64 (nx + 1), _, ⟨by rw [HW2.out, HW3.out]; exact HZ.out⟩, ⟨by rw [HW2.out, HW3.out, List.length_append]; simp; omega⟩, ⟨AS.next M3.out M6.out M7.out (by have h := HO.out; rw [List.length_append] at h; exact h) HBn.out hn7⟩⟩
theorem spec_ReadArea.calls (k : Nat) (A0_0 : Option Addr) (c0_0 : Nat) (l0_0 : List Int) (A0_1 : Option Addr) (c0_1 : Nat) (l0_1 : List (S79)) (a0_2 : Int) (a0_3 : Bool) (a1 : Int) (a2 : Int) (r1 : Bool) (r2 : List (S111)) (r3 : Int) (r4 : Int) (w : World) (hr0_0 : Kd.C (Kd.int .u8) w A0_0 l0_0.length l0_0) (hc0_0 : l0_0.length ≤ c0_0) (hr0_1 : Kd.C k79 w A0_1 l0_1.length l0_1) (hc0_1 : l0_1.length ≤ c0_1) (h : m_ReadArea.f k l0_0 l0_1 a0_2 a0_3 a1 a2 = some (r1, r2, r3, r4)) :
  Calls Try.prog 40 #[.agg #[.slice A0_0 l0_0.length c0_0, .slice A0_1 l0_1.length c0_1, .int .i64 a0_2, .bool a0_3], .int .i64 a1, .int .i64 a2] w fun e w' => ∃ v1_ : Value, e = .returned (.agg #[.bool r1, v1_, .int .i64 r3, .int .i64 r4]) ∧ Kd.S k111 111 w' w.heap.size (fun _ => True) v1_ r2 ∧ Below w.heap.size w w' := by
 unfold m_ReadArea.f at h
 split at h
 case isFalse => cases h
 next hL =>
 have := spec_ReadArea_any A0_0 c0_0 l0_0 A0_1 c0_1 l0_1 a0_2 a0_3 a1 a2 w hr0_0 hc0_0 hr0_1 hc0_1 (rsOk_of hL)
 rw [Option.some.inj h] at this
 exact this

/-! ### impl_ReadArea: function 41 -/
mutual
def impl_ReadArea.j0 : Nat → Int → Int → Bool → List Int → List (S79) → Int → Bool → Option (Bool × (List (S111)) × Int × Int)
 | 0, _, _, _, _, _, _, _ => none
 | k + 1, x1, x2, x24, x1005000, x1005001, x1005002, x1005003 => if x24 = true then (some (false, ([] : List (S111)), 0, 0)) else (impl_ReadArea.l0 k x1 x1005000 x1005001 x1005002 x1005003 false ([] : List (S111)) 0 x2)
def impl_ReadArea.l0 : Nat → Int → List Int → List (S79) → Int → Bool → Bool → List (S111) → Int → Int → Option (Bool × (List (S111)) × Int × Int)
 | 0, _, _, _, _, _, _, _, _, _ => none
 | k + 1, x1, x1005000, x1005001, x1005002, x1005003, x1009000, x1009001, x1009002, x1009003 => (impl_goodNumber.f x1009003).bind fun t1009 => (if t1009 = true then ((impl_Disk_begin.f x1005000 x1005001 x1005002 x1005003 x1).bind fun t1010 => ((spec_ReadRec.f k x1005000 x1005001 x1005002 x1005003 (wrap64 (t1010 + x1009002)) x1009003).bind fun bt1011 => (if bt1011.1 = true then ((impl_Disk_area.f x1005000 x1005001 x1005002 x1005003).bind fun t1017 => (if (wrap64 (x1009002 + bt1011.2.2)) > t1017 then (if x1009000 = true then (some (x1009000, x1009001, x1009002, x1009003)) else (some (false, ([] : List (S111)), 0, 0))) else (if x1009001.length < 5864062014805 then (impl_ReadArea.l0 k x1 x1005000 x1005001 x1005002 x1005003 true (x1009001 ++ [(⟨bt1011.2.1⟩ : S111)]) (wrap64 (x1009002 + bt1011.2.2)) (wrap64 (x1009003 + 1))) else (none)))) else (if x1009000 = true then (some (x1009000, x1009001, x1009002, x1009003)) else (some (false, ([] : List (S111)), 0, 0)))))) else (if x1009000 = true then (some (x1009000, x1009001, x1009002, x1009003)) else (some (false, ([] : List (S111)), 0, 0))))
end
def impl_ReadArea.f (k : Nat) (l0_0 : List Int) (l0_1 : List (S79)) (a0_2 : Int) (a0_3 : Bool) (a1 : Int) (a2 : Int) : Option (Bool × (List (S111)) × Int × Int) := (impl_ValidDisk.f k l0_0 l0_1 a0_2 a0_3).bind fun t1006 => (if t1006 = true then (if a1 < 0 then (impl_ReadArea.j0 k a1 a2 true l0_0 l0_1 a0_2 a0_3) else (if a1 > 1 then (impl_ReadArea.j0 k a1 a2 true l0_0 l0_1 a0_2 a0_3) else ((impl_goodNumber.f a2).bind fun t1007 => (impl_ReadArea.j0 k a1 a2 (!t1007) l0_0 l0_1 a0_2 a0_3)))) else (impl_ReadArea.j0 k a1 a2 true l0_0 l0_1 a0_2 a0_3))
def impl_ReadArea.T5 : Bool × List (List Nat × List Nat) := (true, [([], []), ([], []), ([], []), ([1, 2], [1, 2]), ([], []), ([4], [4]), ([3, 5], [3, 5]), ([], []), ([7], [7]), ([0, 6, 8, 3], [0, 6, 8]), ([], []), ([10, 9, 9, 0, 1, 2, 3, 4, 5, 6, 7, 8, 9, 10], [9, 10])])
def impl_ReadArea.B5 : List Nat := [0, 0, 0, 6, 0, 16, 62, 0, 128, 511, 0, 2047]
def impl_ReadArea.T6 : Bool × List (List Nat × List Nat) := (true, [([], []), ([0], [0]), ([1], [1]), ([2], [2]), ([3], [3]), ([4, 3], [3, 4]), ([3], [3]), ([6, 3], [3, 6]), ([5, 7, 3], [3, 5, 7]), ([3], [3]), ([9, 3, 3], [3, 9]), ([8, 10, 3], [3, 8, 10]), ([3, 11], [3, 11])])
def impl_ReadArea.B6 : List Nat := [0, 1, 3, 7, 15, 31, 15, 79, 255, 15, 527, 2047, 4095]
-- needs mRA AS.next AR.store
def impl_ReadArea.gT5 : Bool × List (List Nat × List Nat) := (true, [([], []), ([], []), ([], []), ([1, 2], [1, 2]), ([], []), ([4], [4]), ([3, 5], [3, 5]), ([], []), ([7], [7]), ([0, 6, 8, 3], [0, 6, 8]), ([], []), ([10, 9, 9, 0, 1, 2, 3, 4, 5, 6, 7, 8, 9, 10], [9, 10])])
def impl_ReadArea.gB5 : List Nat := [0, 0, 0, 6, 0, 16, 62, 0, 128, 511, 0, 2047]
theorem impl_ReadArea.gtab5 : rtab .any (opsOf Try.f41 5) = impl_ReadArea.gT5 := by kernel_rfl
theorem impl_ReadArea.gbits5 : waitsOk impl_ReadArea.gT5.2 impl_ReadArea.gB5 = true := by kernel_rfl
def impl_ReadArea.gT6 : Bool × List (List Nat × List Nat) := (true, [([], []), ([0], [0]), ([1], [1]), ([2], [2]), ([3], [3]), ([4, 3], [3, 4]), ([3], [3]), ([6, 3], [3, 6]), ([5, 7, 3], [3, 5, 7]), ([3], [3]), ([9, 3, 3], [3, 9]), ([8, 10, 3], [3, 8, 10]), ([3, 11], [3, 11])])
def impl_ReadArea.gB6 : List Nat := [0, 1, 3, 7, 15, 31, 15, 79, 255, 15, 527, 2047, 4095]
theorem impl_ReadArea.gtab6 : rtab .any (opsOf Try.f41 6) = impl_ReadArea.gT6 := by kernel_rfl
theorem impl_ReadArea.gbits6 : waitsOk impl_ReadArea.gT6.2 impl_ReadArea.gB6 = true := by kernel_rfl
set_option maxHeartbeats 4000000 in
set_option maxRecDepth 100000 in
theorem impl_ReadArea_any (A0 : Option Addr) (c0 : Nat) (l0 : List Int) (A1 : Option Addr) (c1 : Nat) (l1 : List S79) (a2 : Int) (a3 : Bool) (ar fs : Int) (w : World) (hr0 : Kd.C (Kd.int .u8) w A0 l0.length l0) (hc0 : l0.length ≤ c0) (hr1 : Kd.C k79 w A1 l1.length l1) (hc1 : l1.length ≤ c1) (hok : RsOk l0 l1) :
  Calls Try.prog 41 #[.agg #[.slice A0 l0.length c0, .slice A1 l1.length c1, .int .i64 a2, .bool a3], .int .i64 ar, .int .i64 fs] w fun e w' => ∃ v : Value, e = .returned (.agg #[.bool (mRA l0 l1 a2 ar fs).1, v, .int .i64 (mRA l0 l1 a2 ar fs).2.2.1, .int .i64 (mRA l0 l1 a2 ar fs).2.2.2]) ∧ Kd.S k111 111 w' w.heap.size (fun _ => True) v (mRA l0 l1 a2 ar fs).2.1 ∧ Below w.heap.size w w' := by
 obtain ⟨kv, hv⟩ := (implValid_ev l0 l1 a2 a3 hok.1 hok.2.1.1).rounds
 have HV := Aside0.mk hv
 have HR0 := Aside0.mk hr0
 have HC0 := Aside0.mk hc0
 have HR1 := Aside0.mk hr1
 have HC1 := Aside0.mk hc1
 have HOK := Aside0.mk hok
 clear hr0 hc0 hr1 hc1 hv hok
 have hu25 := Try.underlying25
 have hu65 := Try.underlying65
 have hu49 := Try.underlying49
 have hb0 := below_alloc (below_alloc (Below.refl w.heap.size w) (.cells #[.slice A0 l0.length c0, .slice A1 l1.length c1, .int .i64 a2, .bool a3] 25)) (.cells #[.bool false, .slice none 0 0, .int .i64 0, .int .i64 0] 65)
 have K3 := Aside0.mk (blk_alloc (blk_new w (.cells #[.slice A0 l0.length c0, .slice A1 l1.length c1, .int .i64 a2, .bool a3] 25)) (.cells #[.bool false, .slice none 0 0, .int .i64 0, .int .i64 0] 65))
 have K6 := Aside0.mk (blk_new (w.alloc (.cells #[.slice A0 l0.length c0, .slice A1 l1.length c1, .int .i64 a2, .bool a3] 25)) (.cells #[.bool false, .slice none 0 0, .int .i64 0, .int .i64 0] 65))
 simp only [World.size_alloc] at K6
 have HB := Aside0.mk hb0
 clear hb0
 go_enter Try.func41, Try.ntmps41
 go_wp2_with fail
 generalize ((w.alloc (.cells #[.slice A0 l0.length c0, .slice A1 l1.length c1, .int .i64 a2, .bool a3] 25)).alloc (.cells #[.bool false, .slice none 0 0, .int .i64 0, .int .i64 0] 65)) = W0 at *
 refine (impl_ValidDisk.calls kv _ _ l0 _ _ l1 a2 a3 _ _ (Kd.C_below HR0.out HB.out) HC0.out (Kd.C_below HR1.out HB.out) HC1.out HV.out).mono ?_
 rintro e W1 ⟨rfl, hb⟩
 replace K3 := Aside0.mk (blk_below K3.out hb)
 replace K6 := Aside0.mk (blk_below K6.out hb)
 replace HB := Aside0.mk (below_step HB.out hb)
 clear hb
 obtain ⟨z0, z1, z2, z3, y0, y1, y2, y3⟩ := blk_cells4 K6.out
 by_cases cv : vD l0 l1 a2 = true
 case neg =>
  have cv' : vD l0 l1 a2 = false := by simpa using cv
  rw [cv']
  have em := Aside0.mk (show mRA l0 l1 a2 ar fs = (false, [], 0, 0) by unfold mRA; rw [cv', if_neg (by simp)])
  go_wp2_with fail
  refine bodyPost_ret (results_cell_row rfl _ _ (w.heap.size + 1) 65 #[.bool false, .slice none 0 0, .int .i64 0, .int .i64 0] (0, 0) _ rfl (blk_put (cs := #[.bool false, .slice none 0 0, .int .i64 0, .int .i64 0]) (blk_put (cs := #[.bool false, .slice none 0 0, .int .i64 0, .int .i64 0]) (blk_put (cs := #[.bool false, .slice none 0 0, .int .i64 0, .int .i64 0]) (blk_put (cs := #[.bool false, .slice none 0 0, .int .i64 0, .int .i64 0]) K6.out 0 _ rfl) 1 _ rfl) 2 _ rfl) 3 _ rfl) hu65 rfl (by kernel_rfl)) rfl ?_
  exact ra_zero em.out HB.out
 rw [cv]
 have CV := Aside0.mk cv
 clear cv
 by_cases c0 : ar < 0
 ·have em := Aside0.mk (show mRA l0 l1 a2 ar fs = (false, [], 0, 0) by unfold mRA; rw [if_neg (by simp; omega)])
  go_wp2_with fail
  refine bodyPost_ret (results_cell_row rfl _ _ (w.heap.size + 1) 65 #[.bool false, .slice none 0 0, .int .i64 0, .int .i64 0] (0, 0) _ rfl (blk_put (cs := #[.bool false, .slice none 0 0, .int .i64 0, .int .i64 0]) (blk_put (cs := #[.bool false, .slice none 0 0, .int .i64 0, .int .i64 0]) (blk_put (cs := #[.bool false, .slice none 0 0, .int .i64 0, .int .i64 0]) (blk_put (cs := #[.bool false, .slice none 0 0, .int .i64 0, .int .i64 0]) K6.out 0 _ rfl) 1 _ rfl) 2 _ rfl) 3 _ rfl) hu65 rfl (by kernel_rfl)) rfl ?_
  exact ra_zero em.out HB.out
 by_cases c1_ : (1 : Int) < ar
 ·have em := Aside0.mk (show mRA l0 l1 a2 ar fs = (false, [], 0, 0) by unfold mRA; rw [if_neg (by simp; omega)])
  go_wp2_with fail
  refine bodyPost_ret (results_cell_row rfl _ _ (w.heap.size + 1) 65 #[.bool false, .slice none 0 0, .int .i64 0, .int .i64 0] (0, 0) _ rfl (blk_put (cs := #[.bool false, .slice none 0 0, .int .i64 0, .int .i64 0]) (blk_put (cs := #[.bool false, .slice none 0 0, .int .i64 0, .int .i64 0]) (blk_put (cs := #[.bool false, .slice none 0 0, .int .i64 0, .int .i64 0]) (blk_put (cs := #[.bool false, .slice none 0 0, .int .i64 0, .int .i64 0]) K6.out 0 _ rfl) 1 _ rfl) 2 _ rfl) 3 _ rfl) hu65 rfl (by kernel_rfl)) rfl ?_
  exact ra_zero em.out HB.out
 have C01 := Aside0.mk (show 0 ≤ ar ∧ ar ≤ 1 by omega)
 go_wp2_with fail
 refine (impl_goodNumber.calls fs (gN fs) _ (goodN_eq fs)).mono ?_
 rintro e W2 ⟨rfl, hd⟩
 have hb := hd.below
 clear hd z0 z1 z2 z3 y0 y1 y2 y3
 replace K3 := Aside0.mk (blk_below K3.out hb)
 replace K6 := Aside0.mk (blk_below K6.out hb)
 replace HB := Aside0.mk (below_step HB.out hb)
 clear hb
 obtain ⟨z0, z1, z2, z3, y0, y1, y2, y3⟩ := blk_cells4 K6.out
 by_cases cg : gN fs = true
 case neg =>
  have cg' : gN fs = false := by simpa using cg
  rw [cg']
  have em := Aside0.mk (show mRA l0 l1 a2 ar fs = (false, [], 0, 0) by unfold mRA; rw [cg', if_neg (by simp)])
  go_wp2_with fail
  refine bodyPost_ret (results_cell_row rfl _ _ (w.heap.size + 1) 65 #[.bool false, .slice none 0 0, .int .i64 0, .int .i64 0] (0, 0) _ rfl (blk_put (cs := #[.bool false, .slice none 0 0, .int .i64 0, .int .i64 0]) (blk_put (cs := #[.bool false, .slice none 0 0, .int .i64 0, .int .i64 0]) (blk_put (cs := #[.bool false, .slice none 0 0, .int .i64 0, .int .i64 0]) (blk_put (cs := #[.bool false, .slice none 0 0, .int .i64 0, .int .i64 0]) K6.out 0 _ rfl) 1 _ rfl) 2 _ rfl) 3 _ rfl) hu65 rfl (by kernel_rfl)) rfl ?_
  exact ra_zero em.out HB.out
 rw [cg]
 have hm : mRA l0 l1 a2 ar fs = if (raAll l0 l1 a2 ar fs).1 = true then raAll l0 l1 a2 ar fs else (false, [], 0, 0) := by
  unfold mRA
  rw [if_pos (by rw [CV.out, cg]; simp; exact C01.out)]
 have hfs : 1 ≤ fs ∧ fs ≤ 2000000000 := by unfold gN at cg; simpa using cg
 have hbg := begin_i a3 HOK.out.1 CV.out ar C01.out.1 C01.out.2
 have har := area_i a3 HOK.out.1 CV.out
 have hab := asz_bd CV.out
 have hra : raF (rrOf l0 l1 a2) (2 + ar * asz l0) (asz l0) ((asz l0).toNat + 1) false [] 0 fs = raAll l0 l1 a2 ar fs := rfl
 have hb4 : 2 ≤ 2 + ar * asz l0 ∧ 2 + ar * asz l0 ≤ 513 := by
  have h1 := C01.out
  rcases (show ar = 0 ∨ ar = 1 by omega) with e | e <;> subst e <;> omega
 generalize 2 + ar * asz l0 = b at hbg hra hb4
 generalize asz l0 = a at har hab hra hbg
 generalize raAll l0 l1 a2 ar fs = z at hm hra
 have HM := Aside0.mk hm
 have HBG := Aside0.mk hbg
 have HAR := Aside0.mk har
 have HAB := Aside0.mk hab
 have HRA := Aside0.mk hra
 have HB4 := Aside0.mk hb4
 have HFS := Aside0.mk hfs
 clear hm hbg har hab hra hb4 hfs cg
 go_wp2_with fail
 clear c0 c1_
 have HS := Aside0.mk (show AS w (W2.alloc (.cells #[.bool false, .slice none 0 0, .int .i64 0, .int .i64 fs] 65)) W2.heap.size #[.slice A0 l0.length c0, .slice A1 l1.length c1, .int .i64 a2, .bool a3] false (.slice none 0 0) 0 fs [] from ⟨blk_alloc K3.out _, blk_alloc K6.out _, blk_new _ _, Kd.S_nil _ _ _ _ _, below_alloc HB.out _, blk_lt K6.out⟩)
 clear z0 z1 z2 z3 y0 y1 y2 y3 K3 K6 HB
 generalize W2.alloc (.cells #[.bool false, .slice none 0 0, .int .i64 0, .int .i64 fs] 65) = W3 at *
 generalize W2.heap.size = g7 at *
 go_loopg [] (a.toNat + 1) (fun kq w' => ∃ (ok : Bool) (ps : List S111) (u nx : Int) (v : Value), Aside0 (raF (rrOf l0 l1 a2) b a kq ok ps u nx = z) ∧ Aside0 (0 ≤ u ∧ u ≤ a ∧ a - u < kq ∧ 1 ≤ nx ∧ nx ≤ 2000000001 ∧ (ps.length : Int) ≤ u) ∧ Aside0 (AS w w' g7 #[.slice A0 l0.length c0, .slice A1 l1.length c1, .int .i64 a2, .bool a3] ok v u nx ps))
 case atStart => exact ⟨false, [], 0, fs, .slice none 0 0, HRA, ⟨by have h1 := HAB.out; have h2 := HFS.out; simp; omega⟩, HS⟩
 case round =>
  clear HS HRA
  obtain ⟨ok, ps, u, nx, v, HR, HI, HS⟩ := hrel
  cases gk with
  | zero => exact absurd HI.out (by omega)
  | succ m =>
    obtain ⟨o0, o1, o2, o3, _, _, _, _⟩ := blk_cells4 HS.out.o
    go_wp2_with fail
    refine (impl_goodNumber.calls nx (gN nx) _ (goodN_eq nx)).mono ?_
    rintro e Wa ⟨rfl, hd⟩
    replace HS := Aside0.mk (HS.out.below hd.below)
    clear hd o0 o1 o2 o3
    by_cases cn : gN nx = true
    case neg =>
      have cn' : gN nx = false := by simpa using cn
      rw [cn']
      have HZ := Aside0.mk (show z = (ok, ps, u, nx) by rw [← HR.out, raF, if_neg (fun h => cn h.1)])
      obtain ⟨o0, o1, o2, o3, _, _, _, _⟩ := blk_cells4 HS.out.o
      obtain ⟨z0, z1, z2, z3, y0, y1, y2, y3⟩ := blk_cells4 HS.out.r
      have hn67 : w.heap.size + 1 ≠ g7 := Nat.ne_of_lt HS.out.l
      cases ok with
      | true =>
        have em := Aside0.mk (show mRA l0 l1 a2 ar fs = (true, ps, u, nx) by rw [HM.out, HZ.out]; rfl)
        obtain ⟨Av, cv_, rfl⟩ := Kd.S_slice HS.out.s
        go_wp2_with fail
        have B1 := blk_put (cs' := #[.bool true, .slice none 0 0, .int .i64 0, .int .i64 0]) HS.out.r 0 (.bool true) rfl
        have B2 := blk_put (cs' := #[.bool true, .slice Av ps.length cv_, .int .i64 0, .int .i64 0]) B1 1 (.slice Av ps.length cv_) rfl
        have B3 := blk_put (cs' := #[.bool true, .slice Av ps.length cv_, .int .i64 u, .int .i64 0]) B2 2 (.int .i64 u) rfl
        have B4 := blk_put (cs' := #[.bool true, .slice Av ps.length cv_, .int .i64 u, .int .i64 nx]) B3 3 (.int .i64 nx) rfl
        refine bodyPost_ret (results_cell_row rfl _ _ (w.heap.size + 1) 65 #[.bool true, .slice Av ps.length cv_, .int .i64 u, .int .i64 nx] (0, 0) _ rfl B4 hu65 rfl (by kernel_rfl)) rfl ?_
        rw [em.out]
        exact ⟨_, rfl, Kd.S_set (Kd.S_set (Kd.S_set (Kd.S_set HS.out.s HS.out.r (by decide) 0 _) B1 (by decide) 1 _) B2 (by decide) 2 _) B3 (by decide) 3 _, below_set (below_set (below_set (below_set HS.out.b (Nat.le_succ _)) (Nat.le_succ _)) (Nat.le_succ _)) (Nat.le_succ _)⟩
      | false =>
        have em := Aside0.mk (show mRA l0 l1 a2 ar fs = (false, [], 0, 0) by rw [HM.out, HZ.out]; rfl)
        go_wp2_with fail
        refine bodyPost_ret (results_cell_row rfl _ _ (w.heap.size + 1) 65 #[.bool false, .slice none 0 0, .int .i64 0, .int .i64 0] (0, 0) _ rfl (blk_put (cs := #[.bool false, .slice none 0 0, .int .i64 0, .int .i64 0]) (blk_put (cs := #[.bool false, .slice none 0 0, .int .i64 0, .int .i64 0]) (blk_put (cs := #[.bool false, .slice none 0 0, .int .i64 0, .int .i64 0]) (blk_put (cs := #[.bool false, .slice none 0 0, .int .i64 0, .int .i64 0]) HS.out.r 0 _ rfl) 1 _ rfl) 2 _ rfl) 3 _ rfl) hu65 rfl (by kernel_rfl)) rfl ?_
        exact ra_zero em.out HS.out.b
    rw [cn]
    go_wp2_with fail
    have hw : wrap64 (b + u) = b + u := by
      have h1 := HI.out
      have h2 := HB4.out
      have h3 := HAB.out
      unfold wrap64
      omega
    obtain ⟨⟨rok, rp, rs⟩, hz⟩ : ∃ q, q = rrOf l0 l1 a2 (b + u) nx := ⟨_, rfl⟩
    have RRC : Aside0 (∀ W : World, AS w W g7 #[.slice A0 l0.length c0, .slice A1 l1.length c1, .int .i64 a2, .bool a3] ok v u nx ps → Calls Try.prog 26 #[.agg #[.slice A0 l0.length c0, .slice A1 l1.length c1, .int .i64 a2, .bool a3], .int .i64 (wrap64 (b + u)), .int .i64 nx] W fun e w' => ∃ v : Value, e = .returned (.agg #[.bool rok, v, .int .i64 rs]) ∧ Kd.R (Kd.int .u8) 5 w' W.heap.size (fun _ => True) v rp ∧ Below W.heap.size W w') := ⟨fun W h => by
      have := rr_impl A0 c0 l0 A1 c1 l1 a2 a3 HOK.out (b + u) nx W (Kd.C_below HR0.out h.b) HC0.out (Kd.C_below HR1.out h.b) HC1.out
      rw [← hz] at this
      rw [hw]
      exact this⟩
    have HBD := Aside0.mk (show rok = true → 1 ≤ rs ∧ rs < 65536 by
      intro h
      have := rr_bd HOK.out (b + u) nx (by rw [← hz]; exact h)
      rw [← hz] at this
      exact this)
    have HR2 := Aside0.mk (show (if (rok = true ∧ ¬ u + rs > a) then raF (rrOf l0 l1 a2) b a m true (ps ++ [⟨rp⟩]) (u + rs) (nx + 1) else (ok, ps, u, nx)) = z by
      rw [← HR.out, raF, ← hz]
      by_cases c : rok = true ∧ ¬ u + rs > a
      · rw [if_pos c, if_pos ⟨cn, c⟩]
      · rw [if_neg c, if_neg (fun h => c h.2)])
    clear hw hz HR
    refine start_ (n := 12) (S := fun w' => w'.heap[w.heap.size]? = some (.cells #[.slice A0 l0.length c0, .slice A1 l1.length c1, .int .i64 a2, .bool a3] 25 (0, 0)) ∧ w'.heap[g7]? = some (.cells #[.bool ok, v, .int .i64 u, .int .i64 nx] 65 (0, 0))) (ds := []) #[false, false, false, false, false, false, false, false, false, false, false, false] (by kernel_rfl) rfl rfl ⟨HS.out.d, HS.out.o⟩ (fun hHeld => ?_); refine with_tabW impl_ReadArea.gtab5 impl_ReadArea.gbits5 (fun HT_ HW_ => ?_)
    replace HS := Aside0.mk (HS.out.below (below_drew1 (Below.refl _ _)))
    generalize Wa.drew = Wf at *
    refine pure_ (i := 2) (N := some 33) (v := ?_) (a' := ?_) #[false, false, true, false, false, false, false, false, false, false, false, false] rfl rfl (any_of HT_.out (by kernel_rfl)) (fun _ _ _ h => h) (Or.inl ⟨by rfl, ?_⟩) ?_ ?_
    rotate_left
    · intro w'
      go_simp
      with_reducible rfl
    rotate_left
    · simp only [Act.put, List.setIfInBounds_toArray, List.set_cons_zero, List.set_cons_succ, i64_w, i32_w]
      rfl
    refine pure_ (i := 4) (N := some 35) (v := ?_) (a' := ?_) #[false, false, true, false, true, false, false, false, false, false, false, false] rfl rfl (any_of HT_.out (by kernel_rfl)) (fun _ _ _ h => h) (Or.inl ⟨by rfl, ?_⟩) ?_ ?_
    rotate_left
    · intro w'
      go_simp
      with_reducible rfl
    rotate_left
    · simp only [Act.put, List.setIfInBounds_toArray, List.set_cons_zero, List.set_cons_succ, i64_w, i32_w]
      rfl
    refine pure_ (i := 7) (N := some 38) (v := ?_) (a' := ?_) #[false, false, true, false, true, false, false, true, false, false, false, false] rfl rfl (any_of HT_.out (by kernel_rfl)) (fun _ _ _ h => h) (Or.inl ⟨by rfl, ?_⟩) ?_ ?_
    rotate_left
    · intro w'
      go_simp
      with_reducible rfl
    rotate_left
    · simp only [Act.put, List.setIfInBounds_toArray, List.set_cons_zero, List.set_cons_succ, i64_w, i32_w]
      rfl
    refine take_ (i := 0) (N := some 31) (v := ?_) (a' := ?_) #[true, false, true, false, true, false, false, true, false, false, false, false] rfl rfl (take_ofW HT_.out HW_.out (by kernel_rfl)) (fun _ _ _ h => h) (Or.inl ⟨by rfl, ?_⟩) hHeld ?_ ?_
    rotate_left
    · rintro w' ⟨s0, s1⟩
      obtain ⟨x0, x1, x2, x3, _, _, _, _⟩ := blk_cells4 s0
      go_simp
      with_reducible rfl
    rotate_left
    · simp only [Act.put, List.setIfInBounds_toArray, List.set_cons_zero, List.set_cons_succ, i64_w, i32_w]
      rfl
    refine take_ (i := 1) (N := some 32) (v := ?_) (a' := ?_) #[true, true, true, false, true, false, false, true, false, false, false, false] rfl rfl (take_ofW HT_.out HW_.out (by kernel_rfl)) (fun _ _ _ h => h) (Or.inl ⟨by rfl, ?_⟩) hHeld ?_ ?_
    rotate_left
    · rintro w' ⟨s0, s1⟩
      obtain ⟨x0, x1, x2, x3, _, _, _, _⟩ := blk_cells4 s0
      go_simp
      with_reducible rfl
    rotate_left
    · simp only [Act.put, List.setIfInBounds_toArray, List.set_cons_zero, List.set_cons_succ, i64_w, i32_w]
      rfl
    refine take_ (i := 5) (N := some 36) (v := ?_) (a' := ?_) #[true, true, true, false, true, true, false, true, false, false, false, false] rfl rfl (take_ofW HT_.out HW_.out (by kernel_rfl)) (fun _ _ _ h => h) (Or.inl ⟨by rfl, ?_⟩) hHeld ?_ ?_
    rotate_left
    · rintro w' ⟨s0, s1⟩
      obtain ⟨o0, o1, o2, o3, _, _, _, _⟩ := blk_cells4 s1
      go_simp
      with_reducible rfl
    rotate_left
    · simp only [Act.put, List.setIfInBounds_toArray, List.set_cons_zero, List.set_cons_succ, i64_w, i32_w]
      rfl
    refine take_ (i := 8) (N := some 39) (v := ?_) (a' := ?_) #[true, true, true, false, true, true, false, true, true, false, false, false] rfl rfl (take_ofW HT_.out HW_.out (by kernel_rfl)) (fun _ _ _ h => h) (Or.inl ⟨by rfl, ?_⟩) hHeld ?_ ?_
    rotate_left
    · rintro w' ⟨s0, s1⟩
      obtain ⟨o0, o1, o2, o3, _, _, _, _⟩ := blk_cells4 s1
      go_simp
      with_reducible rfl
    rotate_left
    · simp only [Act.put, List.setIfInBounds_toArray, List.set_cons_zero, List.set_cons_succ, i64_w, i32_w]
      rfl
    refine join_ (σ := Value × Nat) 1 #[true, true, true, true, true, true, true, true, true, true, true, false] (fun s_ => [(34, .int .i64 b), (40, .agg #[.bool rok, s_.1, .int .i64 rs]), (8, .pointer (some ⟨s_.2, 0, none⟩)), (37, .int .i64 (wrap64 (b + u)))]) (fun s_ w' => (w'.heap[w.heap.size]? = some (.cells #[.slice A0 l0.length c0, .slice A1 l1.length c1, .int .i64 a2, .bool a3] 25 (0, 0)) ∧ w'.heap[g7]? = some (.cells #[.bool ok, v, .int .i64 u, .int .i64 nx] 65 (0, 0))) ∧ AR w w' g7 #[.slice A0 l0.length c0, .slice A1 l1.length c1, .int .i64 a2, .bool a3] ok v u nx ps s_.1 rp ∧ w'.heap[s_.2]? = some (.cells #[.bool false, .slice none 0 0, .int .i64 0] 49 (0, 0)) ∧ w.heap.size ≤ s_.2) ?_ ?_
    rotate_left
    · intro hCont
      refine two_ (i := 3) (j := 10) (Ni := some 34) (Nj := some 8) #[true, true, true, true, true, true, false, true, true, false, false, false] #[true, true, true, false, true, true, false, true, true, false, true, false] rfl rfl rfl rfl (two_of HT_.out (by kernel_rfl)) (by decide) (by decide) (fun K hK => ?_) (fun K hK => ?_)
      · skip
        refine goes_ Try.func90 (by kernel_rfl) rfl #[.agg #[.slice A0 l0.length c0, .slice A1 l1.length c1, .int .i64 a2, .bool a3], .int .i64 ar] (by rfl) rfl rfl (by (try simp only [List.map_toArray, List.map_cons, List.map_nil]); first | done | rfl) ?_
        refine (impl_Disk_begin.calls _ _ l0 _ _ l1 a2 a3 ar _ _ (Kd.C_below HR0.out HS.out.b) HC0.out (Kd.C_below HR1.out HS.out.b) HC1.out HBG.out).mono ?_
        rintro e Wg ⟨rfl, hb⟩
        refine ⟨_, rfl, ?_⟩
        replace HS := Aside0.mk (HS.out.below hb)
        clear hb
        refine hK.out _ _ ⟨HS.out.d, HS.out.o⟩ (fun hHeld => ?_)
        clear hK K
        refine norm_ (a' := ?_) ?_ ?_
        rotate_left
        · show Act.put _ (some 34) _ = _
          simp only [Act.put, List.setIfInBounds_toArray, List.set_cons_zero, List.set_cons_succ, i64_w, i32_w]
          rfl
        refine pure_ (i := 6) (N := some 37) (v := ?_) (a' := ?_) #[true, true, true, true, true, true, true, true, true, false, false, false] rfl rfl (any_of HT_.out (by kernel_rfl)) (fun _ _ _ h => h) (Or.inl ⟨by rfl, ?_⟩) ?_ ?_
        rotate_left
        · intro w'
          go_simp
          with_reducible rfl
        rotate_left
        · simp only [Act.put, List.setIfInBounds_toArray, List.set_cons_zero, List.set_cons_succ, i64_w, i32_w]
          rfl
        refine two_ (i := 9) (j := 10) (Ni := some 40) (Nj := some 8) #[true, true, true, true, true, true, true, true, true, true, false, false] #[true, true, true, true, true, true, true, true, true, false, true, false] rfl rfl rfl rfl (two_of HT_.out (by kernel_rfl)) (by decide) (by decide) (fun K hK => ?_) (fun K hK => ?_)
        · skip
          refine goes_ Try.func26 (by kernel_rfl) rfl #[.agg #[.slice A0 l0.length c0, .slice A1 l1.length c1, .int .i64 a2, .bool a3], .int .i64 (wrap64 (b + u)), .int .i64 nx] (by rfl) rfl rfl (by (try simp only [List.map_toArray, List.map_cons, List.map_nil]); first | done | rfl) ?_
          refine (RRC.out _ HS.out).mono ?_
          rintro e Wh ⟨vr, rfl, ho, hb⟩
          refine ⟨_, rfl, ?_⟩
          have HA := Aside0.mk (HS.out.record ho hb)
          clear ho hb HS
          refine hK.out _ _ ⟨HA.out.d, HA.out.o⟩ (fun hHeld => ?_)
          clear hK K
          refine norm_ (a' := ?_) ?_ ?_
          rotate_left
          · show Act.put _ (some 40) _ = _
            simp only [Act.put, List.setIfInBounds_toArray, List.set_cons_zero, List.set_cons_succ, i64_w, i32_w]
            rfl
          refine one_ (i := 10) (N := some 8) #[true, true, true, true, true, true, true, true, true, true, true, false] rfl rfl (one_of HT_.out (by kernel_rfl)) (by decide) (fun K hK => ?_)
          refine box_step ?hg (N := 8) ?hd (cs := #[.bool false, .slice none 0 0, .int .i64 0]) (t := 49) ?hr ?_; (case hd => rfl); (case hg => rfl); (case hr => first | (go_simp; done) | (go_simp; rfl))
          intro g8 hg Wi hbox hb
          have G8 := Aside0.mk (show w.heap.size ≤ g8 by rw [hg]; exact HA.out.b.size)
          replace HA := Aside0.mk (HA.out.below hb)
          have K8 := Aside0.mk hbox
          clear hb hbox hg
          refine hK.out _ _ ⟨HA.out.d, HA.out.o⟩ (fun hHeld => ?_)
          clear hK K
          refine norm_ (a' := ?_) ?_ ?_
          rotate_left
          · show Act.put _ (some 8) _ = _
            simp only [Act.put, List.setIfInBounds_toArray, List.set_cons_zero, List.set_cons_succ, i64_w, i32_w]
            rfl
          exact norm_ (by simp only [putAll, Act.put, List.setIfInBounds_toArray, List.set_cons_zero, List.set_cons_succ]) (hCont (vr, g8) _ ⟨hHeld, HA.out, K8.out, G8.out⟩)
        · skip
          refine box_step ?hg (N := 8) ?hd (cs := #[.bool false, .slice none 0 0, .int .i64 0]) (t := 49) ?hr ?_; (case hd => rfl); (case hg => rfl); (case hr => first | (go_simp; done) | (go_simp; rfl))
          intro g8 hg Wi hbox hb
          have G8 := Aside0.mk (show w.heap.size ≤ g8 by rw [hg]; exact HS.out.b.size)
          replace HS := Aside0.mk (HS.out.below hb)
          have K8 := Aside0.mk hbox
          clear hb hbox hg
          refine hK.out _ _ ⟨HS.out.d, HS.out.o⟩ (fun hHeld => ?_)
          clear hK K
          refine norm_ (a' := ?_) ?_ ?_
          rotate_left
          · show Act.put _ (some 8) _ = _
            simp only [Act.put, List.setIfInBounds_toArray, List.set_cons_zero, List.set_cons_succ, i64_w, i32_w]
            rfl
          refine one_ (i := 9) (N := some 40) #[true, true, true, true, true, true, true, true, true, true, true, false] rfl rfl (one_of HT_.out (by kernel_rfl)) (by decide) (fun K hK => ?_)
          refine goes_ Try.func26 (by kernel_rfl) rfl #[.agg #[.slice A0 l0.length c0, .slice A1 l1.length c1, .int .i64 a2, .bool a3], .int .i64 (wrap64 (b + u)), .int .i64 nx] (by rfl) rfl rfl (by (try simp only [List.map_toArray, List.map_cons, List.map_nil]); first | done | rfl) ?_
          refine (RRC.out _ HS.out).mono ?_
          rintro e Wh ⟨vr, rfl, ho, hb⟩
          refine ⟨_, rfl, ?_⟩
          have HA := Aside0.mk (HS.out.record ho hb)
          replace K8 := Aside0.mk (blk_below K8.out hb)
          clear ho hb HS
          refine hK.out _ _ ⟨HA.out.d, HA.out.o⟩ (fun hHeld => ?_)
          clear hK K
          refine norm_ (a' := ?_) ?_ ?_
          rotate_left
          · show Act.put _ (some 40) _ = _
            simp only [Act.put, List.setIfInBounds_toArray, List.set_cons_zero, List.set_cons_succ, i64_w, i32_w]
            rfl
          exact norm_ (by simp only [putAll, Act.put, List.setIfInBounds_toArray, List.set_cons_zero, List.set_cons_succ]) (hCont (vr, g8) _ ⟨hHeld, HA.out, K8.out, G8.out⟩)
      · skip
        refine box_step ?hg (N := 8) ?hd (cs := #[.bool false, .slice none 0 0, .int .i64 0]) (t := 49) ?hr ?_; (case hd => rfl); (case hg => rfl); (case hr => first | (go_simp; done) | (go_simp; rfl))
        intro g8 hg Wi hbox hb
        have G8 := Aside0.mk (show w.heap.size ≤ g8 by rw [hg]; exact HS.out.b.size)
        replace HS := Aside0.mk (HS.out.below hb)
        have K8 := Aside0.mk hbox
        clear hb hbox hg
        refine hK.out _ _ ⟨HS.out.d, HS.out.o⟩ (fun hHeld => ?_)
        clear hK K
        refine norm_ (a' := ?_) ?_ ?_
        rotate_left
        · show Act.put _ (some 8) _ = _
          simp only [Act.put, List.setIfInBounds_toArray, List.set_cons_zero, List.set_cons_succ, i64_w, i32_w]
          rfl
        refine one_ (i := 3) (N := some 34) #[true, true, true, true, true, true, false, true, true, false, true, false] rfl rfl (one_of HT_.out (by kernel_rfl)) (by decide) (fun K hK => ?_)
        refine goes_ Try.func90 (by kernel_rfl) rfl #[.agg #[.slice A0 l0.length c0, .slice A1 l1.length c1, .int .i64 a2, .bool a3], .int .i64 ar] (by rfl) rfl rfl (by (try simp only [List.map_toArray, List.map_cons, List.map_nil]); first | done | rfl) ?_
        refine (impl_Disk_begin.calls _ _ l0 _ _ l1 a2 a3 ar _ _ (Kd.C_below HR0.out HS.out.b) HC0.out (Kd.C_below HR1.out HS.out.b) HC1.out HBG.out).mono ?_
        rintro e Wg ⟨rfl, hb⟩
        refine ⟨_, rfl, ?_⟩
        replace HS := Aside0.mk (HS.out.below hb)
        replace K8 := Aside0.mk (blk_below K8.out hb)
        clear hb
        refine hK.out _ _ ⟨HS.out.d, HS.out.o⟩ (fun hHeld => ?_)
        clear hK K
        refine norm_ (a' := ?_) ?_ ?_
        rotate_left
        · show Act.put _ (some 34) _ = _
          simp only [Act.put, List.setIfInBounds_toArray, List.set_cons_zero, List.set_cons_succ, i64_w, i32_w]
          rfl
        refine pure_ (i := 6) (N := some 37) (v := ?_) (a' := ?_) #[true, true, true, true, true, true, true, true, true, false, true, false] rfl rfl (any_of HT_.out (by kernel_rfl)) (fun _ _ _ h => h) (Or.inl ⟨by rfl, ?_⟩) ?_ ?_
        rotate_left
        · intro w'
          go_simp
          with_reducible rfl
        rotate_left
        · simp only [Act.put, List.setIfInBounds_toArray, List.set_cons_zero, List.set_cons_succ, i64_w, i32_w]
          rfl
        refine one_ (i := 9) (N := some 40) #[true, true, true, true, true, true, true, true, true, true, true, false] rfl rfl (one_of HT_.out (by kernel_rfl)) (by decide) (fun K hK => ?_)
        refine goes_ Try.func26 (by kernel_rfl) rfl #[.agg #[.slice A0 l0.length c0, .slice A1 l1.length c1, .int .i64 a2, .bool a3], .int .i64 (wrap64 (b + u)), .int .i64 nx] (by rfl) rfl rfl (by (try simp only [List.map_toArray, List.map_cons, List.map_nil]); first | done | rfl) ?_
        refine (RRC.out _ HS.out).mono ?_
        rintro e Wh ⟨vr, rfl, ho, hb⟩
        refine ⟨_, rfl, ?_⟩
        have HA := Aside0.mk (HS.out.record ho hb)
        replace K8 := Aside0.mk (blk_below K8.out hb)
        clear ho hb HS
        refine hK.out _ _ ⟨HA.out.d, HA.out.o⟩ (fun hHeld => ?_)
        clear hK K
        refine norm_ (a' := ?_) ?_ ?_
        rotate_left
        · show Act.put _ (some 40) _ = _
          simp only [Act.put, List.setIfInBounds_toArray, List.set_cons_zero, List.set_cons_succ, i64_w, i32_w]
          rfl
        exact norm_ (by simp only [putAll, Act.put, List.setIfInBounds_toArray, List.set_cons_zero, List.set_cons_succ]) (hCont (vr, g8) _ ⟨hHeld, HA.out, K8.out, G8.out⟩)
    rintro ⟨vr, g8⟩ W5 ⟨hHeld, ha, k8, G8⟩
    dsimp only at ha k8 G8
    have HA := Aside0.mk ha
    have K8 := Aside0.mk k8
    clear ha k8 HS
    obtain ⟨Ar, cr_, rfl⟩ := Kd.R_slice HA.out.p
    refine norm_ (a' := ?_) ?_ ?_
    rotate_left
    · simp only [putAll, Act.put, List.setIfInBounds_toArray, List.set_cons_zero, List.set_cons_succ]
      rfl
    refine one_ (i := 11) (N := none) #[true, true, true, true, true, true, true, true, true, true, true, true] rfl rfl (one_of HT_.out (by kernel_rfl)) (by decide) (fun K hK => ?_)
    have q0 : W5.cell? ⟨g8, 0, none⟩ = some (.bool false) := (blk_cell K8.out 0).trans rfl
    have q1 : W5.cell? ⟨g8, 1, none⟩ = some (.slice none 0 0) := (blk_cell K8.out 1).trans rfl
    have q2 : W5.cell? ⟨g8, 2, none⟩ = some (.int .i64 0) := (blk_cell K8.out 2).trans rfl
    have f0 := blk_frozen K8.out 0
    have f1 := blk_frozen K8.out 1
    have f2 := blk_frozen K8.out 2
    have hst := HA.out.store (rok := rok) (rs := rs) K8.out G8
    replace HA := Aside0.mk hst.1
    replace K8 := Aside0.mk hst.2
    have H8 := Aside0.mk G8
    clear hst G8
    refine skip_ (w1 := ?_) (by rfl) rfl ?_ ?_
    rotate_left
    · go_simp
      rfl
    clear q0 q1 q2 f0 f1 f2
    generalize (((W5.setCell ⟨g8, 0, none⟩ (.bool rok)).setCell ⟨g8, 1, none⟩ (.slice Ar rp.length cr_)).setCell ⟨g8, 2, none⟩ (.int .i64 rs)) = W6 at *
    refine hK.out _ _ ⟨HA.out.d, HA.out.o⟩ (fun hHeld => ?_)
    clear hK K
    refine done_ (done_of HT_.out (by kernel_rfl)) ?_
    clear hHeld
    cases rok with
    | false =>
      have HZ := Aside0.mk (show z = (ok, ps, u, nx) by rw [← HR2.out, if_neg (fun h => by cases h.1)])
      go_wp2_with fail
      refine start_ (n := 13) (S := fun w' => w'.heap[w.heap.size]? = some (.cells #[.slice A0 l0.length c0, .slice A1 l1.length c1, .int .i64 a2, .bool a3] 25 (0, 0)) ∧ w'.heap[g7]? = some (.cells #[.bool ok, v, .int .i64 u, .int .i64 nx] 65 (0, 0)) ∧ w'.heap[g8]? = some (.cells #[.bool false, .slice Ar rp.length cr_, .int .i64 rs] 49 (0, 0))) (ds := []) #[false, false, false, false, false, false, false, false, false, false, false, false, false] (by kernel_rfl) rfl rfl ⟨HA.out.d, HA.out.o, K8.out⟩ (fun hHeld => ?_); refine with_tabW impl_ReadArea.gtab6 impl_ReadArea.gbits6 (fun HT_ HW_ => ?_)
      replace HA := Aside0.mk (HA.out.below (below_drew1 (Below.refl _ _)))
      replace K8 := Aside0.mk (blk_drew K8.out)
      generalize W6.drew = W7 at *
      refine pure_ (i := 0) (N := some 41) (v := ?_) (a' := ?_) #[true, false, false, false, false, false, false, false, false, false, false, false, false] rfl rfl (any_of HT_.out (by kernel_rfl)) (fun _ _ _ h => h) (Or.inl ⟨by rfl, ?_⟩) ?_ ?_
      rotate_left
      · intro w'
        go_simp
        with_reducible rfl
      rotate_left
      · simp only [Act.put, List.setIfInBounds_toArray, List.set_cons_zero, List.set_cons_succ, i64_w, i32_w]
        rfl
      refine take_ (i := 1) (N := some 42) (v := ?_) (a' := ?_) #[true, true, false, false, false, false, false, false, false, false, false, false, false] rfl rfl (take_ofW HT_.out HW_.out (by kernel_rfl)) (fun _ _ _ h => h) (Or.inl ⟨by rfl, ?_⟩) hHeld ?_ ?_
      rotate_left
      · rintro w' ⟨s0, s1, s2⟩
        have q0 : w'.cell? ⟨g8, 0, none⟩ = some (.bool false) := (blk_cell s2 0).trans rfl
        have q2 : w'.cell? ⟨g8, 2, none⟩ = some (.int .i64 rs) := (blk_cell s2 2).trans rfl
        go_simp
        with_reducible rfl
      rotate_left
      · simp only [Act.put, List.setIfInBounds_toArray, List.set_cons_zero, List.set_cons_succ, i64_w, i32_w]
        rfl
      refine pure_ (i := 2) (N := some 43) (v := ?_) (a' := ?_) #[true, true, true, false, false, false, false, false, false, false, false, false, false] rfl rfl (any_of HT_.out (by kernel_rfl)) (fun _ _ _ h => h) (Or.inl ⟨by rfl, ?_⟩) ?_ ?_
      rotate_left
      · intro w'
        go_simp
        with_reducible rfl
      rotate_left
      · simp only [Act.put, List.setIfInBounds_toArray, List.set_cons_zero, List.set_cons_succ, i64_w, i32_w]
        rfl
      refine pure_ (i := 3) (N := some 44) (v := ?_) (a' := ?_) #[true, true, true, true, false, false, false, false, false, false, false, false, false] rfl rfl (any_of HT_.out (by kernel_rfl)) (fun _ _ _ h => h) (Or.inl ⟨by rfl, ?_⟩) ?_ ?_
      rotate_left
      · intro w'
        go_simp
        with_reducible rfl
      rotate_left
      · simp only [Act.put, List.setIfInBounds_toArray, List.set_cons_zero, List.set_cons_succ, i64_w, i32_w]
        rfl
      refine pure_ (i := 4) (N := some 45) (v := undef) (a' := ?_) #[true, true, true, true, true, false, false, false, false, false, false, false, false] rfl rfl (any_of HT_.out (by kernel_rfl)) (fun _ _ _ h => h) (Or.inr ⟨by rfl, rfl⟩) ?_ ?_
      rotate_left
      · simp only [Act.put, List.setIfInBounds_toArray, List.set_cons_zero, List.set_cons_succ, i64_w, i32_w]
        rfl
      refine pure_ (i := 5) (N := some 46) (v := undef) (a' := ?_) #[true, true, true, true, true, true, false, false, false, false, false, false, false] rfl rfl (any_of HT_.out (by kernel_rfl)) (fun _ _ _ h => h) (Or.inr ⟨by rfl, rfl⟩) ?_ ?_
      rotate_left
      · simp only [Act.put, List.setIfInBounds_toArray, List.set_cons_zero, List.set_cons_succ, i64_w, i32_w]
        rfl
      refine pure_ (i := 6) (N := some 47) (v := undef) (a' := ?_) #[true, true, true, true, true, true, true, false, false, false, false, false, false] rfl rfl (any_of HT_.out (by kernel_rfl)) (fun _ _ _ h => h) (Or.inr ⟨by rfl, rfl⟩) ?_ ?_
      rotate_left
      · simp only [Act.put, List.setIfInBounds_toArray, List.set_cons_zero, List.set_cons_succ, i64_w, i32_w]
        rfl
      refine pure_ (i := 7) (N := some 48) (v := undef) (a' := ?_) #[true, true, true, true, true, true, true, true, false, false, false, false, false] rfl rfl (any_of HT_.out (by kernel_rfl)) (fun _ _ _ h => h) (Or.inr ⟨by rfl, rfl⟩) ?_ ?_
      rotate_left
      · simp only [Act.put, List.setIfInBounds_toArray, List.set_cons_zero, List.set_cons_succ, i64_w, i32_w]
        rfl
      refine pure_ (i := 8) (N := some 49) (v := undef) (a' := ?_) #[true, true, true, true, true, true, true, true, true, false, false, false, false] rfl rfl (any_of HT_.out (by kernel_rfl)) (fun _ _ _ h => h) (Or.inr ⟨by rfl, rfl⟩) ?_ ?_
      rotate_left
      · simp only [Act.put, List.setIfInBounds_toArray, List.set_cons_zero, List.set_cons_succ, i64_w, i32_w]
        rfl
      refine pure_ (i := 9) (N := some 50) (v := undef) (a' := ?_) #[true, true, true, true, true, true, true, true, true, true, false, false, false] rfl rfl (any_of HT_.out (by kernel_rfl)) (fun _ _ _ h => h) (Or.inr ⟨by rfl, rfl⟩) ?_ ?_
      rotate_left
      · simp only [Act.put, List.setIfInBounds_toArray, List.set_cons_zero, List.set_cons_succ, i64_w, i32_w]
        rfl
      refine pure_ (i := 10) (N := some 51) (v := undef) (a' := ?_) #[true, true, true, true, true, true, true, true, true, true, true, false, false] rfl rfl (any_of HT_.out (by kernel_rfl)) (fun _ _ _ h => h) (Or.inr ⟨by rfl, rfl⟩) ?_ ?_
      rotate_left
      · simp only [Act.put, List.setIfInBounds_toArray, List.set_cons_zero, List.set_cons_succ, i64_w, i32_w]
        rfl
      refine pure_ (i := 11) (N := some 52) (v := undef) (a' := ?_) #[true, true, true, true, true, true, true, true, true, true, true, true, false] rfl rfl (any_of HT_.out (by kernel_rfl)) (fun _ _ _ h => h) (Or.inr ⟨by rfl, rfl⟩) ?_ ?_
      rotate_left
      · simp only [Act.put, List.setIfInBounds_toArray, List.set_cons_zero, List.set_cons_succ, i64_w, i32_w]
        rfl
      refine pure_ (i := 12) (N := some 53) (v := ?_) (a' := ?_) #[true, true, true, true, true, true, true, true, true, true, true, true, true] rfl rfl (any_of HT_.out (by kernel_rfl)) (fun _ _ _ h => h) (Or.inl ⟨by rfl, ?_⟩) ?_ ?_
      rotate_left
      · intro w'
        go_simp
        with_reducible rfl
      rotate_left
      · simp only [Act.put, List.setIfInBounds_toArray, List.set_cons_zero, List.set_cons_succ, i64_w, i32_w]
        rfl
      refine done_ (done_of HT_.out (by kernel_rfl)) ?_
      have HS := Aside0.mk HA.out.forget
      clear HA
      obtain ⟨o0, o1, o2, o3, _, _, _, _⟩ := blk_cells4 HS.out.o
      obtain ⟨z0, z1, z2, z3, y0, y1, y2, y3⟩ := blk_cells4 HS.out.r
      have hn67 : w.heap.size + 1 ≠ g7 := Nat.ne_of_lt HS.out.l
      cases ok with
      | true =>
        have em := Aside0.mk (show mRA l0 l1 a2 ar fs = (true, ps, u, nx) by rw [HM.out, HZ.out]; rfl)
        obtain ⟨Av, cv_, rfl⟩ := Kd.S_slice HS.out.s
        go_wp2_with fail
        have B1 := blk_put (cs' := #[.bool true, .slice none 0 0, .int .i64 0, .int .i64 0]) HS.out.r 0 (.bool true) rfl
        have B2 := blk_put (cs' := #[.bool true, .slice Av ps.length cv_, .int .i64 0, .int .i64 0]) B1 1 (.slice Av ps.length cv_) rfl
        have B3 := blk_put (cs' := #[.bool true, .slice Av ps.length cv_, .int .i64 u, .int .i64 0]) B2 2 (.int .i64 u) rfl
        have B4 := blk_put (cs' := #[.bool true, .slice Av ps.length cv_, .int .i64 u, .int .i64 nx]) B3 3 (.int .i64 nx) rfl
        refine bodyPost_ret (results_cell_row rfl _ _ (w.heap.size + 1) 65 #[.bool true, .slice Av ps.length cv_, .int .i64 u, .int .i64 nx] (0, 0) _ rfl B4 hu65 rfl (by kernel_rfl)) rfl ?_
        rw [em.out]
        exact ⟨_, rfl, Kd.S_set (Kd.S_set (Kd.S_set (Kd.S_set HS.out.s HS.out.r (by decide) 0 _) B1 (by decide) 1 _) B2 (by decide) 2 _) B3 (by decide) 3 _, below_set (below_set (below_set (below_set HS.out.b (Nat.le_succ _)) (Nat.le_succ _)) (Nat.le_succ _)) (Nat.le_succ _)⟩
      | false =>
        have em := Aside0.mk (show mRA l0 l1 a2 ar fs = (false, [], 0, 0) by rw [HM.out, HZ.out]; rfl)
        go_wp2_with fail
        refine bodyPost_ret (results_cell_row rfl _ _ (w.heap.size + 1) 65 #[.bool false, .slice none 0 0, .int .i64 0, .int .i64 0] (0, 0) _ rfl (blk_put (cs := #[.bool false, .slice none 0 0, .int .i64 0, .int .i64 0]) (blk_put (cs := #[.bool false, .slice none 0 0, .int .i64 0, .int .i64 0]) (blk_put (cs := #[.bool false, .slice none 0 0, .int .i64 0, .int .i64 0]) (blk_put (cs := #[.bool false, .slice none 0 0, .int .i64 0, .int .i64 0]) HS.out.r 0 _ rfl) 1 _ rfl) 2 _ rfl) 3 _ rfl) hu65 rfl (by kernel_rfl)) rfl ?_
        exact ra_zero em.out HS.out.b
    | true =>
      have hw2 : wrap64 (u + rs) = u + rs := by
        have h1 := HI.out
        have h2 := HBD.out rfl
        have h3 := HAB.out
        unfold wrap64
        omega
      by_cases co : u + rs > a
      · have cob : decide (a < wrap64 (u + rs)) = true := decide_eq_true (by rw [hw2]; exact co)
        have HZ := Aside0.mk (show z = (ok, ps, u, nx) by rw [← HR2.out, if_neg (fun h => h.2 co)])
        clear co hw2
        go_wp2_with fail
        refine start_ (n := 13) (S := fun w' => w'.heap[w.heap.size]? = some (.cells #[.slice A0 l0.length c0, .slice A1 l1.length c1, .int .i64 a2, .bool a3] 25 (0, 0)) ∧ w'.heap[g7]? = some (.cells #[.bool ok, v, .int .i64 u, .int .i64 nx] 65 (0, 0)) ∧ w'.heap[g8]? = some (.cells #[.bool true, .slice Ar rp.length cr_, .int .i64 rs] 49 (0, 0))) (ds := []) #[false, false, false, false, false, false, false, false, false, false, false, false, false] (by kernel_rfl) rfl rfl ⟨HA.out.d, HA.out.o, K8.out⟩ (fun hHeld => ?_); refine with_tabW impl_ReadArea.gtab6 impl_ReadArea.gbits6 (fun HT_ HW_ => ?_)
        replace HA := Aside0.mk (HA.out.below (below_drew1 (Below.refl _ _)))
        replace K8 := Aside0.mk (blk_drew K8.out)
        generalize W6.drew = W7 at *
        refine pure_ (i := 0) (N := some 41) (v := ?_) (a' := ?_) #[true, false, false, false, false, false, false, false, false, false, false, false, false] rfl rfl (any_of HT_.out (by kernel_rfl)) (fun _ _ _ h => h) (Or.inl ⟨by rfl, ?_⟩) ?_ ?_
        rotate_left
        · intro w'
          go_simp
          with_reducible rfl
        rotate_left
        · simp only [Act.put, List.setIfInBounds_toArray, List.set_cons_zero, List.set_cons_succ, i64_w, i32_w]
          rfl
        refine take_ (i := 1) (N := some 42) (v := ?_) (a' := ?_) #[true, true, false, false, false, false, false, false, false, false, false, false, false] rfl rfl (take_ofW HT_.out HW_.out (by kernel_rfl)) (fun _ _ _ h => h) (Or.inl ⟨by rfl, ?_⟩) hHeld ?_ ?_
        rotate_left
        · rintro w' ⟨s0, s1, s2⟩
          have q0 : w'.cell? ⟨g8, 0, none⟩ = some (.bool true) := (blk_cell s2 0).trans rfl
          have q2 : w'.cell? ⟨g8, 2, none⟩ = some (.int .i64 rs) := (blk_cell s2 2).trans rfl
          go_simp
          with_reducible rfl
        rotate_left
        · simp only [Act.put, List.setIfInBounds_toArray, List.set_cons_zero, List.set_cons_succ, i64_w, i32_w]
          rfl
        refine pure_ (i := 2) (N := some 43) (v := ?_) (a' := ?_) #[true, true, true, false, false, false, false, false, false, false, false, false, false] rfl rfl (any_of HT_.out (by kernel_rfl)) (fun _ _ _ h => h) (Or.inl ⟨by rfl, ?_⟩) ?_ ?_
        rotate_left
        · intro w'
          go_simp
          with_reducible rfl
        rotate_left
        · simp only [Act.put, List.setIfInBounds_toArray, List.set_cons_zero, List.set_cons_succ, i64_w, i32_w]
          rfl
        refine pure_ (i := 3) (N := some 44) (v := ?_) (a' := ?_) #[true, true, true, true, false, false, false, false, false, false, false, false, false] rfl rfl (any_of HT_.out (by kernel_rfl)) (fun _ _ _ h => h) (Or.inl ⟨by rfl, ?_⟩) ?_ ?_
        rotate_left
        · intro w'
          go_simp
          with_reducible rfl
        rotate_left
        · simp only [Act.put, List.setIfInBounds_toArray, List.set_cons_zero, List.set_cons_succ, i64_w, i32_w]
          rfl
        refine pure_ (i := 4) (N := some 45) (v := ?_) (a' := ?_) #[true, true, true, true, true, false, false, false, false, false, false, false, false] rfl rfl (any_of HT_.out (by kernel_rfl)) (fun _ _ _ h => h) (Or.inl ⟨by rfl, ?_⟩) ?_ ?_
        rotate_left
        · intro w'
          go_simp
          with_reducible rfl
        rotate_left
        · simp only [Act.put, List.setIfInBounds_toArray, List.set_cons_zero, List.set_cons_succ, i64_w, i32_w]
          rfl
        refine take_ (i := 5) (N := some 46) (v := ?_) (a' := ?_) #[true, true, true, true, true, true, false, false, false, false, false, false, false] rfl rfl (take_ofW HT_.out HW_.out (by kernel_rfl)) (fun _ _ _ h => h) (Or.inl ⟨by rfl, ?_⟩) hHeld ?_ ?_
        rotate_left
        · rintro w' ⟨s0, s1, s2⟩
          obtain ⟨o0, o1, o2, o3, _, _, _, _⟩ := blk_cells4 s1
          go_simp
          with_reducible rfl
        rotate_left
        · simp only [Act.put, List.setIfInBounds_toArray, List.set_cons_zero, List.set_cons_succ, i64_w, i32_w]
          rfl
        refine pure_ (i := 6) (N := some 47) (v := ?_) (a' := ?_) #[true, true, true, true, true, true, true, false, false, false, false, false, false] rfl rfl (any_of HT_.out (by kernel_rfl)) (fun _ _ _ h => h) (Or.inl ⟨by rfl, ?_⟩) ?_ ?_
        rotate_left
        · intro w'
          go_simp
          with_reducible rfl
        rotate_left
        · simp only [Act.put, List.setIfInBounds_toArray, List.set_cons_zero, List.set_cons_succ, i64_w, i32_w]
          rfl
        refine take_ (i := 7) (N := some 48) (v := ?_) (a' := ?_) #[true, true, true, true, true, true, true, true, false, false, false, false, false] rfl rfl (take_ofW HT_.out HW_.out (by kernel_rfl)) (fun _ _ _ h => h) (Or.inl ⟨by rfl, ?_⟩) hHeld ?_ ?_
        rotate_left
        · rintro w' ⟨s0, s1, s2⟩
          have q0 : w'.cell? ⟨g8, 0, none⟩ = some (.bool true) := (blk_cell s2 0).trans rfl
          have q2 : w'.cell? ⟨g8, 2, none⟩ = some (.int .i64 rs) := (blk_cell s2 2).trans rfl
          go_simp
          with_reducible rfl
        rotate_left
        · simp only [Act.put, List.setIfInBounds_toArray, List.set_cons_zero, List.set_cons_succ, i64_w, i32_w]
          rfl
        refine pure_ (i := 8) (N := some 49) (v := ?_) (a' := ?_) #[true, true, true, true, true, true, true, true, true, false, false, false, false] rfl rfl (any_of HT_.out (by kernel_rfl)) (fun _ _ _ h => h) (Or.inl ⟨by rfl, ?_⟩) ?_ ?_
        rotate_left
        · intro w'
          go_simp
          with_reducible rfl
        rotate_left
        · simp only [Act.put, List.setIfInBounds_toArray, List.set_cons_zero, List.set_cons_succ, i64_w, i32_w]
          rfl
        refine take_ (i := 9) (N := some 50) (v := ?_) (a' := ?_) #[true, true, true, true, true, true, true, true, true, true, false, false, false] rfl rfl (take_ofW HT_.out HW_.out (by kernel_rfl)) (fun _ _ _ h => h) (Or.inl ⟨by rfl, ?_⟩) hHeld ?_ ?_
        rotate_left
        · rintro w' ⟨s0, s1, s2⟩
          obtain ⟨x0, x1, x2, x3, _, _, _, _⟩ := blk_cells4 s0
          go_simp
          with_reducible rfl
        rotate_left
        · simp only [Act.put, List.setIfInBounds_toArray, List.set_cons_zero, List.set_cons_succ, i64_w, i32_w]
          rfl
        refine one_ (i := 10) (N := some 51) #[true, true, true, true, true, true, true, true, true, true, true, false, false] rfl rfl (one_of HT_.out (by kernel_rfl)) (by decide) (fun K hK => ?_)
        refine goes_ Try.func91 (by kernel_rfl) rfl #[.agg #[.slice A0 l0.length c0, .slice A1 l1.length c1, .int .i64 a2, .bool a3]] (by rfl) rfl rfl (by (try simp only [List.map_toArray, List.map_cons, List.map_nil]); first | done | rfl) ?_
        refine (impl_Disk_area.calls _ _ l0 _ _ l1 a2 a3 _ _ (Kd.C_below HR0.out HA.out.b) HC0.out (Kd.C_below HR1.out HA.out.b) HC1.out HAR.out).mono ?_
        rintro e We ⟨rfl, hb⟩
        refine ⟨_, rfl, ?_⟩
        replace HA := Aside0.mk (HA.out.below hb)
        replace K8 := Aside0.mk (blk_below K8.out hb)
        clear hb
        refine hK.out _ _ ⟨HA.out.d, HA.out.o, K8.out⟩ (fun hHeld => ?_)
        clear hK K
        refine norm_ (a' := ?_) ?_ ?_
        rotate_left
        · show Act.put _ (some 51) _ = _
          simp only [Act.put, List.setIfInBounds_toArray, List.set_cons_zero, List.set_cons_succ, i64_w, i32_w]
          rfl
        refine pure_ (i := 11) (N := some 52) (v := ?_) (a' := ?_) #[true, true, true, true, true, true, true, true, true, true, true, true, false] rfl rfl (any_of HT_.out (by kernel_rfl)) (fun _ _ _ h => h) (Or.inl ⟨by rfl, ?_⟩) ?_ ?_
        rotate_left
        · intro w'
          go_simp
          with_reducible rfl
        rotate_left
        · simp only [Act.put, List.setIfInBounds_toArray, List.set_cons_zero, List.set_cons_succ, i64_w, i32_w]
          rfl
        refine pure_ (i := 12) (N := some 53) (v := ?_) (a' := ?_) #[true, true, true, true, true, true, true, true, true, true, true, true, true] rfl rfl (any_of HT_.out (by kernel_rfl)) (fun _ _ _ h => h) (Or.inl ⟨by rfl, ?_⟩) ?_ ?_
        rotate_left
        · intro w'
          go_simp
          with_reducible rfl
        rotate_left
        · simp only [Act.put, List.setIfInBounds_toArray, List.set_cons_zero, List.set_cons_succ, i64_w, i32_w]
          rfl
        refine done_ (done_of HT_.out (by kernel_rfl)) ?_
        have HS := Aside0.mk HA.out.forget
        clear HA
        obtain ⟨o0, o1, o2, o3, _, _, _, _⟩ := blk_cells4 HS.out.o
        obtain ⟨z0, z1, z2, z3, y0, y1, y2, y3⟩ := blk_cells4 HS.out.r
        have hn67 : w.heap.size + 1 ≠ g7 := Nat.ne_of_lt HS.out.l
        cases ok with
        | true =>
          have em := Aside0.mk (show mRA l0 l1 a2 ar fs = (true, ps, u, nx) by rw [HM.out, HZ.out]; rfl)
          obtain ⟨Av, cv_, rfl⟩ := Kd.S_slice HS.out.s
          go_wp2_with fail
          have B1 := blk_put (cs' := #[.bool true, .slice none 0 0, .int .i64 0, .int .i64 0]) HS.out.r 0 (.bool true) rfl
          have B2 := blk_put (cs' := #[.bool true, .slice Av ps.length cv_, .int .i64 0, .int .i64 0]) B1 1 (.slice Av ps.length cv_) rfl
          have B3 := blk_put (cs' := #[.bool true, .slice Av ps.length cv_, .int .i64 u, .int .i64 0]) B2 2 (.int .i64 u) rfl
          have B4 := blk_put (cs' := #[.bool true, .slice Av ps.length cv_, .int .i64 u, .int .i64 nx]) B3 3 (.int .i64 nx) rfl
          refine bodyPost_ret (results_cell_row rfl _ _ (w.heap.size + 1) 65 #[.bool true, .slice Av ps.length cv_, .int .i64 u, .int .i64 nx] (0, 0) _ rfl B4 hu65 rfl (by kernel_rfl)) rfl ?_
          rw [em.out]
          exact ⟨_, rfl, Kd.S_set (Kd.S_set (Kd.S_set (Kd.S_set HS.out.s HS.out.r (by decide) 0 _) B1 (by decide) 1 _) B2 (by decide) 2 _) B3 (by decide) 3 _, below_set (below_set (below_set (below_set HS.out.b (Nat.le_succ _)) (Nat.le_succ _)) (Nat.le_succ _)) (Nat.le_succ _)⟩
        | false =>
          have em := Aside0.mk (show mRA l0 l1 a2 ar fs = (false, [], 0, 0) by rw [HM.out, HZ.out]; rfl)
          go_wp2_with fail
          refine bodyPost_ret (results_cell_row rfl _ _ (w.heap.size + 1) 65 #[.bool false, .slice none 0 0, .int .i64 0, .int .i64 0] (0, 0) _ rfl (blk_put (cs := #[.bool false, .slice none 0 0, .int .i64 0, .int .i64 0]) (blk_put (cs := #[.bool false, .slice none 0 0, .int .i64 0, .int .i64 0]) (blk_put (cs := #[.bool false, .slice none 0 0, .int .i64 0, .int .i64 0]) (blk_put (cs := #[.bool false, .slice none 0 0, .int .i64 0, .int .i64 0]) HS.out.r 0 _ rfl) 1 _ rfl) 2 _ rfl) 3 _ rfl) hu65 rfl (by kernel_rfl)) rfl ?_
          exact ra_zero em.out HS.out.b
      have cob : decide (a < wrap64 (u + rs)) = false := decide_eq_false (by rw [hw2]; exact co)
      have hnx : nx ≤ 2000000000 := by
        unfold gN at cn
        simp at cn
        omega
      have hw3 : wrap64 (nx + 1) = nx + 1 := by
        have h1 := HI.out
        unfold wrap64
        omega
      have HW2 := Aside0.mk hw2
      have HW3 := Aside0.mk hw3
      have HNX := Aside0.mk hnx
      have HZ := Aside0.mk (show raF (rrOf l0 l1 a2) b a m true (ps ++ [⟨rp⟩]) (u + rs) (nx + 1) = z by rw [← HR2.out, if_pos ⟨rfl, co⟩])
      have HCO := Aside0.mk co
      clear co hw2 hw3 hnx cn
      go_wp2_with fail
      refine start_ (n := 13) (S := fun w' => w'.heap[w.heap.size]? = some (.cells #[.slice A0 l0.length c0, .slice A1 l1.length c1, .int .i64 a2, .bool a3] 25 (0, 0)) ∧ w'.heap[g7]? = some (.cells #[.bool ok, v, .int .i64 u, .int .i64 nx] 65 (0, 0)) ∧ w'.heap[g8]? = some (.cells #[.bool true, .slice Ar rp.length cr_, .int .i64 rs] 49 (0, 0))) (ds := []) #[false, false, false, false, false, false, false, false, false, false, false, false, false] (by kernel_rfl) rfl rfl ⟨HA.out.d, HA.out.o, K8.out⟩ (fun hHeld => ?_); refine with_tabW impl_ReadArea.gtab6 impl_ReadArea.gbits6 (fun HT_ HW_ => ?_)
      replace HA := Aside0.mk (HA.out.below (below_drew1 (Below.refl _ _)))
      replace K8 := Aside0.mk (blk_drew K8.out)
      generalize W6.drew = W7 at *
      refine pure_ (i := 0) (N := some 41) (v := ?_) (a' := ?_) #[true, false, false, false, false, false, false, false, false, false, false, false, false] rfl rfl (any_of HT_.out (by kernel_rfl)) (fun _ _ _ h => h) (Or.inl ⟨by rfl, ?_⟩) ?_ ?_
      rotate_left
      · intro w'
        go_simp
        with_reducible rfl
      rotate_left
      · simp only [Act.put, List.setIfInBounds_toArray, List.set_cons_zero, List.set_cons_succ, i64_w, i32_w]
        rfl
      refine take_ (i := 1) (N := some 42) (v := ?_) (a' := ?_) #[true, true, false, false, false, false, false, false, false, false, false, false, false] rfl rfl (take_ofW HT_.out HW_.out (by kernel_rfl)) (fun _ _ _ h => h) (Or.inl ⟨by rfl, ?_⟩) hHeld ?_ ?_
      rotate_left
      · rintro w' ⟨s0, s1, s2⟩
        have q0 : w'.cell? ⟨g8, 0, none⟩ = some (.bool true) := (blk_cell s2 0).trans rfl
        have q2 : w'.cell? ⟨g8, 2, none⟩ = some (.int .i64 rs) := (blk_cell s2 2).trans rfl
        go_simp
        with_reducible rfl
      rotate_left
      · simp only [Act.put, List.setIfInBounds_toArray, List.set_cons_zero, List.set_cons_succ, i64_w, i32_w]
        rfl
      refine pure_ (i := 2) (N := some 43) (v := ?_) (a' := ?_) #[true, true, true, false, false, false, false, false, false, false, false, false, false] rfl rfl (any_of HT_.out (by kernel_rfl)) (fun _ _ _ h => h) (Or.inl ⟨by rfl, ?_⟩) ?_ ?_
      rotate_left
      · intro w'
        go_simp
        with_reducible rfl
      rotate_left
      · simp only [Act.put, List.setIfInBounds_toArray, List.set_cons_zero, List.set_cons_succ, i64_w, i32_w]
        rfl
      refine pure_ (i := 3) (N := some 44) (v := ?_) (a' := ?_) #[true, true, true, true, false, false, false, false, false, false, false, false, false] rfl rfl (any_of HT_.out (by kernel_rfl)) (fun _ _ _ h => h) (Or.inl ⟨by rfl, ?_⟩) ?_ ?_
      rotate_left
      · intro w'
        go_simp
        with_reducible rfl
      rotate_left
      · simp only [Act.put, List.setIfInBounds_toArray, List.set_cons_zero, List.set_cons_succ, i64_w, i32_w]
        rfl
      refine pure_ (i := 4) (N := some 45) (v := ?_) (a' := ?_) #[true, true, true, true, true, false, false, false, false, false, false, false, false] rfl rfl (any_of HT_.out (by kernel_rfl)) (fun _ _ _ h => h) (Or.inl ⟨by rfl, ?_⟩) ?_ ?_
      rotate_left
      · intro w'
        go_simp
        with_reducible rfl
      rotate_left
      · simp only [Act.put, List.setIfInBounds_toArray, List.set_cons_zero, List.set_cons_succ, i64_w, i32_w]
        rfl
      refine take_ (i := 5) (N := some 46) (v := ?_) (a' := ?_) #[true, true, true, true, true, true, false, false, false, false, false, false, false] rfl rfl (take_ofW HT_.out HW_.out (by kernel_rfl)) (fun _ _ _ h => h) (Or.inl ⟨by rfl, ?_⟩) hHeld ?_ ?_
      rotate_left
      · rintro w' ⟨s0, s1, s2⟩
        obtain ⟨o0, o1, o2, o3, _, _, _, _⟩ := blk_cells4 s1
        go_simp
        with_reducible rfl
      rotate_left
      · simp only [Act.put, List.setIfInBounds_toArray, List.set_cons_zero, List.set_cons_succ, i64_w, i32_w]
        rfl
      refine pure_ (i := 6) (N := some 47) (v := ?_) (a' := ?_) #[true, true, true, true, true, true, true, false, false, false, false, false, false] rfl rfl (any_of HT_.out (by kernel_rfl)) (fun _ _ _ h => h) (Or.inl ⟨by rfl, ?_⟩) ?_ ?_
      rotate_left
      · intro w'
        go_simp
        with_reducible rfl
      rotate_left
      · simp only [Act.put, List.setIfInBounds_toArray, List.set_cons_zero, List.set_cons_succ, i64_w, i32_w]
        rfl
      refine take_ (i := 7) (N := some 48) (v := ?_) (a' := ?_) #[true, true, true, true, true, true, true, true, false, false, false, false, false] rfl rfl (take_ofW HT_.out HW_.out (by kernel_rfl)) (fun _ _ _ h => h) (Or.inl ⟨by rfl, ?_⟩) hHeld ?_ ?_
      rotate_left
      · rintro w' ⟨s0, s1, s2⟩
        have q0 : w'.cell? ⟨g8, 0, none⟩ = some (.bool true) := (blk_cell s2 0).trans rfl
        have q2 : w'.cell? ⟨g8, 2, none⟩ = some (.int .i64 rs) := (blk_cell s2 2).trans rfl
        go_simp
        with_reducible rfl
      rotate_left
      · simp only [Act.put, List.setIfInBounds_toArray, List.set_cons_zero, List.set_cons_succ, i64_w, i32_w]
        rfl
      refine pure_ (i := 8) (N := some 49) (v := ?_) (a' := ?_) #[true, true, true, true, true, true, true, true, true, false, false, false, false] rfl rfl (any_of HT_.out (by kernel_rfl)) (fun _ _ _ h => h) (Or.inl ⟨by rfl, ?_⟩) ?_ ?_
      rotate_left
      · intro w'
        go_simp
        with_reducible rfl
      rotate_left
      · simp only [Act.put, List.setIfInBounds_toArray, List.set_cons_zero, List.set_cons_succ, i64_w, i32_w]
        rfl
      refine take_ (i := 9) (N := some 50) (v := ?_) (a' := ?_) #[true, true, true, true, true, true, true, true, true, true, false, false, false] rfl rfl (take_ofW HT_.out HW_.out (by kernel_rfl)) (fun _ _ _ h => h) (Or.inl ⟨by rfl, ?_⟩) hHeld ?_ ?_
      rotate_left
      · rintro w' ⟨s0, s1, s2⟩
        obtain ⟨x0, x1, x2, x3, _, _, _, _⟩ := blk_cells4 s0
        go_simp
        with_reducible rfl
      rotate_left
      · simp only [Act.put, List.setIfInBounds_toArray, List.set_cons_zero, List.set_cons_succ, i64_w, i32_w]
        rfl
      refine one_ (i := 10) (N := some 51) #[true, true, true, true, true, true, true, true, true, true, true, false, false] rfl rfl (one_of HT_.out (by kernel_rfl)) (by decide) (fun K hK => ?_)
      refine goes_ Try.func91 (by kernel_rfl) rfl #[.agg #[.slice A0 l0.length c0, .slice A1 l1.length c1, .int .i64 a2, .bool a3]] (by rfl) rfl rfl (by (try simp only [List.map_toArray, List.map_cons, List.map_nil]); first | done | rfl) ?_
      refine (impl_Disk_area.calls _ _ l0 _ _ l1 a2 a3 _ _ (Kd.C_below HR0.out HA.out.b) HC0.out (Kd.C_below HR1.out HA.out.b) HC1.out HAR.out).mono ?_
      rintro e We ⟨rfl, hb⟩
      refine ⟨_, rfl, ?_⟩
      replace HA := Aside0.mk (HA.out.below hb)
      replace K8 := Aside0.mk (blk_below K8.out hb)
      clear hb
      refine hK.out _ _ ⟨HA.out.d, HA.out.o, K8.out⟩ (fun hHeld => ?_)
      clear hK K
      refine norm_ (a' := ?_) ?_ ?_
      rotate_left
      · show Act.put _ (some 51) _ = _
        simp only [Act.put, List.setIfInBounds_toArray, List.set_cons_zero, List.set_cons_succ, i64_w, i32_w]
        rfl
      refine pure_ (i := 11) (N := some 52) (v := ?_) (a' := ?_) #[true, true, true, true, true, true, true, true, true, true, true, true, false] rfl rfl (any_of HT_.out (by kernel_rfl)) (fun _ _ _ h => h) (Or.inl ⟨by rfl, ?_⟩) ?_ ?_
      rotate_left
      · intro w'
        go_simp
        with_reducible rfl
      rotate_left
      · simp only [Act.put, List.setIfInBounds_toArray, List.set_cons_zero, List.set_cons_succ, i64_w, i32_w]
        rfl
      refine pure_ (i := 12) (N := some 53) (v := ?_) (a' := ?_) #[true, true, true, true, true, true, true, true, true, true, true, true, true] rfl rfl (any_of HT_.out (by kernel_rfl)) (fun _ _ _ h => h) (Or.inl ⟨by rfl, ?_⟩) ?_ ?_
      rotate_left
      · intro w'
        go_simp
        with_reducible rfl
      rotate_left
      · simp only [Act.put, List.setIfInBounds_toArray, List.set_cons_zero, List.set_cons_succ, i64_w, i32_w]
        rfl
      refine done_ (done_of HT_.out (by kernel_rfl)) ?_
      obtain ⟨o0, o1, o2, o3, e0, e1, e2, e3⟩ := blk_cells4 HA.out.o
      go_wp2_with (
        first
        | ((with_reducible refine gate_store (t := 4) (p := 54) rfl ?_); refine store_event (t := 4) (p := 54) (v := ?vo_w98) (w1 := (We.setCell ⟨g7, 0, none⟩ (.bool true))) ?hg ?ho ?hn ?hr ?_; (case ho => rfl); (case hg => rfl); (case hn => rfl); (case hr => first | (go_simp; done) | (go_simp; rfl)); intro W8 hw8; have hst := HA.out.true K8.out; rw [← hw8] at hst; clear hw8 o0 o1 o2 o3 e0 e1 e2 e3; replace HA := Aside0.mk hst.1; replace K8 := Aside0.mk hst.2; clear hst; obtain ⟨o0, o1, o2, o3, e0, e1, e2, e3⟩ := blk_cells4 HA.out.o; have q1 : W8.cell? ⟨g8, 1, none⟩ = some (.slice Ar rp.length cr_) := (blk_cell K8.out 1).trans rfl)
        | (
          (with_reducible refine gate_builtin (b := .append) (xs := #[.tmp 56, .tmp 60]) rfl ?_)
          at_builtin
          refine Kd.S_append k111 (w0 := w) w.heap.size rfl (.tmp 56) (.tmp 60) 63 111 (.agg #[(.slice none 0 0)]) 24 rfl Try.underlying63 info111 rfl (by decide) (by omega) v ps (⟨rp⟩ : S111) [.slice Ar rp.length cr_] (fun _ => True) (fun k_ => some k_ = (.slice Ar rp.length cr_ : Value).ownBlock) rfl rfl ?aP (fun k_ hk_ => (HA.out.apart).1 k_ hk_.symm) ?aF ?aO ?aB ?aS ?aL ?_
          (case aP => exact k111_mkM _ _ _ (⟨rp⟩ : S111) (Kd.R_mono (Kd.R_tight rfl HA.out.apart) (fun _ h_ => h_)))
          (case aB => exact HA.out.b)
          (case aF => exact (fun _ _ => trivial))
          (case aO => exact Kd.S_mono HA.out.s (fun k_ hk => ⟨trivial, fun e_ => hk e_⟩))
          (case aS => exact HA.out.b.size)
          (case aL => have h1 := HI.out; have h2 := HAB.out; omega)
          intro v10 W9 ho hb hg hat
          have M3 := Aside0.mk (blk_grown HA.out.d hg (Kd.S_ne HA.out.s HA.out.d (by decide)))
          have M6 := Aside0.mk (blk_grown HA.out.r hg (Kd.S_ne HA.out.s HA.out.r (by decide)))
          have M7 := Aside0.mk (blk_grown HA.out.o hg (Kd.S_ne HA.out.s HA.out.o (by decide)))
          have M8 := Aside0.mk (blk_grown K8.out hg (Kd.S_ne HA.out.s K8.out (by decide)))
          have HO := Aside0.mk ho
          have HBn := Aside0.mk hb
          have hn7 := HA.out.l
          clear ho hb hg hat o0 o1 o2 o3 e0 e1 e2 e3 q1 K8
          obtain ⟨Aw, cw, ev⟩ := Kd.S_slice HO.out
          subst ev
          obtain ⟨o0, o1, o2, o3, e0, e1, e2, e3⟩ := blk_cells4 M7.out
          have q2 : W9.cell? ⟨g8, 2, none⟩ = some (.int .i64 rs) := (blk_cell M8.out 2).trans rfl
          have hn78 : g7 ≠ g8 := blk_dif M7.out M8.out (by decide)
          have hn87 : g8 ≠ g7 := fun h => hn78 h.symm))
      go_roundg m
      case measure => omega
      case rel =>
        have hbd := HBD.out (by trivial)
        have hi := HI.out
        have hco := HCO.out
        have hnx := HNX.out
        exact ⟨true, ps ++ [⟨rp⟩], wrap64 (u + rs), wrap64 (nx + 1), _, ⟨by rw [HW2.out, HW3.out]; exact HZ.out⟩, ⟨by rw [HW2.out, HW3.out, List.length_append]; simp; omega⟩, ⟨AS.next M3.out M6.out M7.out (by have h := HO.out; rw [List.length_append] at h; exact h) HBn.out hn7⟩⟩
theorem impl_ReadArea.calls (k : Nat) (A0_0 : Option Addr) (c0_0 : Nat) (l0_0 : List Int) (A0_1 : Option Addr) (c0_1 : Nat) (l0_1 : List (S79)) (a0_2 : Int) (a0_3 : Bool) (a1 : Int) (a2 : Int) (r1 : Bool) (r2 : List (S111)) (r3 : Int) (r4 : Int) (w : World) (hr0_0 : Kd.C (Kd.int .u8) w A0_0 l0_0.length l0_0) (hc0_0 : l0_0.length ≤ c0_0) (hr0_1 : Kd.C k79 w A0_1 l0_1.length l0_1) (hc0_1 : l0_1.length ≤ c0_1) (h : m_ReadArea.f k l0_0 l0_1 a0_2 a0_3 a1 a2 = some (r1, r2, r3, r4)) :
  Calls Try.prog 41 #[.agg #[.slice A0_0 l0_0.length c0_0, .slice A0_1 l0_1.length c0_1, .int .i64 a0_2, .bool a0_3], .int .i64 a1, .int .i64 a2] w fun e w' => ∃ v1_ : Value, e = .returned (.agg #[.bool r1, v1_, .int .i64 r3, .int .i64 r4]) ∧ Kd.S k111 111 w' w.heap.size (fun _ => True) v1_ r2 ∧ Below w.heap.size w w' := by
 unfold m_ReadArea.f at h
 split at h
 case isFalse => cases h
 next hL =>
 have := impl_ReadArea_any A0_0 c0_0 l0_0 A0_1 c0_1 l0_1 a0_2 a0_3 a1 a2 w hr0_0 hc0_0 hr0_1 hc0_1 (rsOk_of hL)
 rw [Option.some.inj h] at this
 exact this

/-! ### laws_eqPayload: function 119 -/
def laws_eqPayload.f (k : Nat) (l0_0 : List Int) (l1_0 : List Int) : Option (Bool) := (laws_eqByteS.f k l0_0 l1_0).bind fun t1023 => (if t1023 = true then (some true) else (some false))
set_option maxHeartbeats 8000000 in
set_option maxRecDepth 100000 in
theorem laws_eqPayload.calls (k : Nat) (A0_0 : Option Addr) (c0_0 : Nat) (l0_0 : List Int) (A1_0 : Option Addr) (c1_0 : Nat) (l1_0 : List Int) (r : Bool) (w : World) (hr0_0 : Kd.C (Kd.int .u8) w A0_0 l0_0.length l0_0) (hc0_0 : l0_0.length ≤ c0_0) (hr1_0 : Kd.C (Kd.int .u8) w A1_0 l1_0.length l1_0) (hc1_0 : l1_0.length ≤ c1_0) (h : laws_eqPayload.f k l0_0 l1_0 = some r) :
  Calls Try.prog 119 #[.agg #[.slice A0_0 l0_0.length c0_0], .agg #[.slice A1_0 l1_0.length c1_0]] w fun e w' => e = .returned (.bool r) ∧ Below w.heap.size w w' := by
 have hu111 := Try.underlying111
 have HR0_0 := Aside0.mk hr0_0
 have HC0_0 := Aside0.mk hc0_0
 clear hr0_0 hc0_0
 have HR1_0 := Aside0.mk hr1_0
 have HC1_0 := Aside0.mk hc1_0
 clear hr1_0 hc1_0
 have HB := Aside0.mk (Below.refl w.heap.size w)
 have H : ((laws_eqByteS.f k l0_0 l1_0).bind fun t1023 => (if t1023 = true then (some true) else (some false))) = some r := h
 clear h
 replace H := Option.bind_eq_some_iff.mp H
 obtain ⟨t1023, A30, H⟩ := H
 replace H : (if t1023 = true then (some true) else (some false)) = some r := H
 have A3 := Aside0.mk A30
 clear A30
 by_cases c4 : t1023 = true
 ·subst c4
  have H1 : (some true) = some r := by rw [if_pos rfl] at H; exact H
  clear H
  have H := H1
  clear H1
  obtain rfl := Option.some.inj H
  go_enter Try.func119, Try.ntmps119
  go_wp2_with (first | ((with_reducible refine gate_dst (N := 2) rfl ?_); refine box_event ?hg (N := 2) ?hd (cs := #[.slice A0_0 l0_0.length c0_0]) (t := 111) ?hr ?_; (case hd => rfl); (case hg => rfl); (case hr => first | (go_simp; done) | (go_simp; rfl)); intro gb1021 hg w5 hbox hb; have n0_ := Aside0.mk (below_step (by repeat (first | (with_reducible first | exact HB.out | apply below_alloc | apply pw_below_drewN | apply below_drew1) | exact HB.out)) hb); have n1_ := Aside0.mk (hbox); have n2_ := Aside0.mk ((by rw [hg]; exact (below_size (by repeat (first | (with_reducible first | exact HB.out | apply below_alloc | apply pw_below_drewN | apply below_drew1) | exact HB.out))) : w.heap.size ≤ gb1021)); have n3_ := Aside0.mk ((by rw [hg]; exact (below_size (by repeat (first | (with_reducible first | exact HB.out | apply below_alloc | apply pw_below_drewN | apply below_drew1) | exact HB.out))) : w.heap.size ≤ gb1021)); clear HB; have HB := n0_; have BK1021 := n1_; have GW1021 := n2_; have GE1021 := n3_; clear n0_ n1_ n2_ n3_; clear hb hbox hg) | ((with_reducible refine gate_dst (N := 3) rfl ?_); refine box_event ?hg (N := 3) ?hd (cs := #[.slice A1_0 l1_0.length c1_0]) (t := 111) ?hr ?_; (case hd => rfl); (case hg => rfl); (case hr => first | (go_simp; done) | (go_simp; rfl)); intro gb1022 hg w6 hbox hb; have n0_ := Aside0.mk (blk_below (g := gb1021) (o := .cells #[.slice A0_0 l0_0.length c0_0] 111 (0, 0)) (by (with_reducible repeat (first | refine blk_drewN ?_ _ | refine blk_drew ?_ | refine blk_alloc ?_ _)); exact BK1021.out) hb); have n1_ := Aside0.mk (below_step (by repeat (first | (with_reducible first | exact HB.out | apply below_alloc | apply pw_below_drewN | apply below_drew1 | refine below_set ?_ GE1021.out) | exact HB.out)) hb); have n2_ := Aside0.mk (hbox); have n3_ := Aside0.mk ((by rw [hg]; exact (below_size (by repeat (first | (with_reducible first | exact HB.out | apply below_alloc | apply pw_below_drewN | apply below_drew1 | refine below_set ?_ GE1021.out) | exact HB.out))) : w.heap.size ≤ gb1022)); have n4_ := Aside0.mk ((by rw [hg]; exact (below_size (by repeat (first | (with_reducible first | exact HB.out | apply below_alloc | apply pw_below_drewN | apply below_drew1 | refine below_set ?_ GE1021.out) | exact HB.out))) : w.heap.size ≤ gb1022)); have n5_ := Aside0.mk ((by rw [hg]; exact Nat.ne_of_lt (blk_lt (g := gb1021) (o := .cells #[.slice A0_0 l0_0.length c0_0] 111 (0, 0)) (by (with_reducible repeat (first | refine blk_drewN ?_ _ | refine blk_drew ?_ | refine blk_alloc ?_ _)); exact BK1021.out)) : gb1021 ≠ gb1022)); have n6_ := Aside0.mk ((by rw [hg]; exact Nat.ne_of_gt (blk_lt (g := gb1021) (o := .cells #[.slice A0_0 l0_0.length c0_0] 111 (0, 0)) (by (with_reducible repeat (first | refine blk_drewN ?_ _ | refine blk_drew ?_ | refine blk_alloc ?_ _)); exact BK1021.out)) : gb1022 ≠ gb1021)); clear BK1021; clear HB; have BK1021 := n0_; have HB := n1_; have BK1022 := n2_; have GW1022 := n3_; have GE1022 := n4_; have NB1021_1022 := n5_; have NB1022_1021 := n6_; clear n0_ n1_ n2_ n3_ n4_ n5_ n6_; clear hb hbox hg; have hnb7 := NB1021_1022.out; have hnc7 := NB1022_1021.out; have hcz8_0 : w6.cell? ⟨gb1021, 0, none⟩ = some (.slice A0_0 l0_0.length c0_0) := (blk_cell BK1021.out 0).trans rfl; have hfz8_0 := blk_frozen BK1021.out 0; have hcz9_0 : w6.cell? ⟨gb1022, 0, none⟩ = some (.slice A1_0 l1_0.length c1_0) := (blk_cell BK1022.out 0).trans rfl; have hfz9_0 := blk_frozen BK1022.out 0) | ((with_reducible refine gate_callee (f := 38) rfl ?_); refine goesL_ (some 9) rfl rfl Try.func38 (by kernel_rfl) rfl #[.slice A0_0 l0_0.length c0_0, .slice A1_0 l1_0.length c1_0] rfl (by (try simp only [List.map_toArray, List.map_cons, List.map_nil]); first | done | rfl | (simp only [List.length_drop, List.length_take]; rfl)) ?_; (with_reducible refine (laws_eqByteS.calls k _ _ l0_0 _ _ l1_0 true _ ?side1 ?side2 ?side3 ?side4 A3.out).mono ?_); (case side1 => repeat (first | exact (Kd.C_below HR0_0.out HB.out) | (with_reducible refine Kd.C_alloc ?_ _) | (with_reducible refine Kd.C_drewN ?_ _) | (with_reducible refine Kd.C_drew ?_))); (case side2 => exact HC0_0.out); (case side3 => repeat (first | exact (Kd.C_below HR1_0.out HB.out) | (with_reducible refine Kd.C_alloc ?_ _) | (with_reducible refine Kd.C_drewN ?_ _) | (with_reducible refine Kd.C_drew ?_))); (case side4 => exact HC1_0.out); rintro e w' ⟨rfl, ⟨nd, rfl⟩⟩; refine ⟨_, rfl, ?_⟩))
  go_ret
  exact ⟨by first | rfl | (simp [errW_none, errW_some] <;> rfl) | (simp [*, errW_none, errW_some] <;> rfl), by repeat (first | (with_reducible first | exact HB.out | apply below_alloc | apply pw_below_drewN | apply below_drew1 | refine below_set ?_ GE1021.out | refine below_set ?_ GE1022.out) | exact HB.out)⟩
 ·replace c4 := Bool.eq_false_iff.mpr c4
  subst c4
  have H1 : (some false) = some r := by rw [if_neg (show ¬ (false = true) by decide)] at H; exact H
  clear H
  have H := H1
  clear H1
  obtain rfl := Option.some.inj H
  go_enter Try.func119, Try.ntmps119
  go_wp2_with (first | ((with_reducible refine gate_dst (N := 2) rfl ?_); refine box_event ?hg (N := 2) ?hd (cs := #[.slice A0_0 l0_0.length c0_0]) (t := 111) ?hr ?_; (case hd => rfl); (case hg => rfl); (case hr => first | (go_simp; done) | (go_simp; rfl)); intro gb1021 hg w10 hbox hb; have n0_ := Aside0.mk (below_step (by repeat (first | (with_reducible first | exact HB.out | apply below_alloc | apply pw_below_drewN | apply below_drew1) | exact HB.out)) hb); have n1_ := Aside0.mk (hbox); have n2_ := Aside0.mk ((by rw [hg]; exact (below_size (by repeat (first | (with_reducible first | exact HB.out | apply below_alloc | apply pw_below_drewN | apply below_drew1) | exact HB.out))) : w.heap.size ≤ gb1021)); have n3_ := Aside0.mk ((by rw [hg]; exact (below_size (by repeat (first | (with_reducible first | exact HB.out | apply below_alloc | apply pw_below_drewN | apply below_drew1) | exact HB.out))) : w.heap.size ≤ gb1021)); clear HB; have HB := n0_; have BK1021 := n1_; have GW1021 := n2_; have GE1021 := n3_; clear n0_ n1_ n2_ n3_; clear hb hbox hg) | ((with_reducible refine gate_dst (N := 3) rfl ?_); refine box_event ?hg (N := 3) ?hd (cs := #[.slice A1_0 l1_0.length c1_0]) (t := 111) ?hr ?_; (case hd => rfl); (case hg => rfl); (case hr => first | (go_simp; done) | (go_simp; rfl)); intro gb1022 hg w11 hbox hb; have n0_ := Aside0.mk (blk_below (g := gb1021) (o := .cells #[.slice A0_0 l0_0.length c0_0] 111 (0, 0)) (by (with_reducible repeat (first | refine blk_drewN ?_ _ | refine blk_drew ?_ | refine blk_alloc ?_ _)); exact BK1021.out) hb); have n1_ := Aside0.mk (below_step (by repeat (first | (with_reducible first | exact HB.out | apply below_alloc | apply pw_below_drewN | apply below_drew1 | refine below_set ?_ GE1021.out) | exact HB.out)) hb); have n2_ := Aside0.mk (hbox); have n3_ := Aside0.mk ((by rw [hg]; exact (below_size (by repeat (first | (with_reducible first | exact HB.out | apply below_alloc | apply pw_below_drewN | apply below_drew1 | refine below_set ?_ GE1021.out) | exact HB.out))) : w.heap.size ≤ gb1022)); have n4_ := Aside0.mk ((by rw [hg]; exact (below_size (by repeat (first | (with_reducible first | exact HB.out | apply below_alloc | apply pw_below_drewN | apply below_drew1 | refine below_set ?_ GE1021.out) | exact HB.out))) : w.heap.size ≤ gb1022)); have n5_ := Aside0.mk ((by rw [hg]; exact Nat.ne_of_lt (blk_lt (g := gb1021) (o := .cells #[.slice A0_0 l0_0.length c0_0] 111 (0, 0)) (by (with_reducible repeat (first | refine blk_drewN ?_ _ | refine blk_drew ?_ | refine blk_alloc ?_ _)); exact BK1021.out)) : gb1021 ≠ gb1022)); have n6_ := Aside0.mk ((by rw [hg]; exact Nat.ne_of_gt (blk_lt (g := gb1021) (o := .cells #[.slice A0_0 l0_0.length c0_0] 111 (0, 0)) (by (with_reducible repeat (first | refine blk_drewN ?_ _ | refine blk_drew ?_ | refine blk_alloc ?_ _)); exact BK1021.out)) : gb1022 ≠ gb1021)); clear BK1021; clear HB; have BK1021 := n0_; have HB := n1_; have BK1022 := n2_; have GW1022 := n3_; have GE1022 := n4_; have NB1021_1022 := n5_; have NB1022_1021 := n6_; clear n0_ n1_ n2_ n3_ n4_ n5_ n6_; clear hb hbox hg; have hnb12 := NB1021_1022.out; have hnc12 := NB1022_1021.out; have hcz13_0 : w11.cell? ⟨gb1021, 0, none⟩ = some (.slice A0_0 l0_0.length c0_0) := (blk_cell BK1021.out 0).trans rfl; have hfz13_0 := blk_frozen BK1021.out 0; have hcz14_0 : w11.cell? ⟨gb1022, 0, none⟩ = some (.slice A1_0 l1_0.length c1_0) := (blk_cell BK1022.out 0).trans rfl; have hfz14_0 := blk_frozen BK1022.out 0) | ((with_reducible refine gate_callee (f := 38) rfl ?_); refine goesL_ (some 9) rfl rfl Try.func38 (by kernel_rfl) rfl #[.slice A0_0 l0_0.length c0_0, .slice A1_0 l1_0.length c1_0] rfl (by (try simp only [List.map_toArray, List.map_cons, List.map_nil]); first | done | rfl | (simp only [List.length_drop, List.length_take]; rfl)) ?_; (with_reducible refine (laws_eqByteS.calls k _ _ l0_0 _ _ l1_0 false _ ?side1 ?side2 ?side3 ?side4 A3.out).mono ?_); (case side1 => repeat (first | exact (Kd.C_below HR0_0.out HB.out) | (with_reducible refine Kd.C_alloc ?_ _) | (with_reducible refine Kd.C_drewN ?_ _) | (with_reducible refine Kd.C_drew ?_))); (case side2 => exact HC0_0.out); (case side3 => repeat (first | exact (Kd.C_below HR1_0.out HB.out) | (with_reducible refine Kd.C_alloc ?_ _) | (with_reducible refine Kd.C_drewN ?_ _) | (with_reducible refine Kd.C_drew ?_))); (case side4 => exact HC1_0.out); rintro e w' ⟨rfl, ⟨nd, rfl⟩⟩; refine ⟨_, rfl, ?_⟩))
  go_ret
  exact ⟨by first | rfl | (simp [errW_none, errW_some] <;> rfl) | (simp [*, errW_none, errW_some] <;> rfl), by repeat (first | (with_reducible first | exact HB.out | apply below_alloc | apply pw_below_drewN | apply below_drew1 | refine below_set ?_ GE1021.out | refine below_set ?_ GE1022.out) | exact HB.out)⟩
end Go.Proofs.Yteddpdonmhiplaa.PR
