-- Made by this session's programs out of the translation and of its own texts.
import Derived.Test.YtfjcfklgnlmjjaaMFnExactTreeRankd
namespace Go.Proofs.Ytfjcfklgnlmjjaa.PB
open Go.RowKit Go.Proofs.YtfjcfklgnlmjjaaW.PrintWords Go.Proofs.YtfjcfklgnlmjjaaW.PrintLast Go.Proofs.YtfjcfklgnlmjjaaW.PrintMore
attribute [local go_sem] max2_int min2_int max_two min_two max_three min_three max_four min_four   -- for this text's walks alone
set_option linter.unusedVariables false
set_option linter.unusedSimpArgs false

/-! ### zzr_rank: a text by hand -/
-- uses goesI_ kN_open0 w64s w64m
-- import Derived.WalkLawsBesides
theorem goesIg_ {P : Program} {ops : Array Oper} {Q : Exit → Act → World → Prop} {rest : List Oper} {oi : Oper} {a : Act} {w : World} (N : Option Tmp) (hd : oi.dst = N) (hw : Region.wanted oi (yielded ops a.tmps) = true) (f : FuncId) (args : Array Value)
  (hrun : (execOp a.eval oi).run P w = .ok (.enter f args) w) (h : Calls P f args w fun e w' => ∃ v, e = .returned v ∧ wpList P ops Q rest (a.put N v) w') : wpList P ops Q (oi :: rest) a w := by
 refine wpList_step fun K hK => ?_
 rw [if_pos hw]
 unfold Oper.wp
 rw [hrun, Oper.upon_enter]
 refine h.mono fun e w'' hh => ?_
 obtain ⟨v, rfl, hk⟩ := hh
 subst hd
 exact hK _ _ hk
theorem leB_eq (a b : ByteArray) : leB a b = (Op.bytesLess a.toList b.toList || (a.toList == b.toList)) := by
 unfold leB lt
 congr 1
 rw [Bool.eq_iff_iff]
 simp only [decide_eq_true_eq, beq_iff_eq]
 exact ⟨fun h => by rw [h], bs_inj⟩
set_option maxHeartbeats 8000000 in
set_option maxRecDepth 100000 in
theorem child_any {d : Nat} {r : Bool} {W : World} {b : Nat} {A : Option Addr} {c : Nat} {t : S56} {ok : Nat → Prop} (hl : InnerAt d W b A c t) (hF : Kd.F (kN d) W ok A t.f2.length t.f2) (hg : goodD (d + 1) r t) (key : ByteArray) :
  Calls Try.prog 73 #[.pointer (some ⟨b, 0, none⟩), .string key] W fun e W' => e = .returned (.int .i64 ((chI d key t.f2 : Nat) : Int)) ∧ W' = W := by
 have x1 : W.cell? ⟨b, 1, none⟩ = some (.slice A t.f2.length c) := (blk_cell hl.2.2.1 1).trans rfl
 have hu2 := Try.underlying87
 have HF := Aside0.mk hF
 have HG := Aside0.mk hg
 have HL4 := Aside0.mk (And.intro hg.2.2.1 hg.2.2.2.1)
 have HQ0 := Aside0.mk (show chI d key t.f2 = 0 + ((t.f2.drop (0 + 1)).takeWhile (fun k => leB (headK d k) key)).length by rw [Nat.zero_add]; rfl)
 clear hl hF hg
 go_enter Try.func73, Try.ntmps73
 go_wp2_with fail
 go_loopg [5] t.f2.length (fun kq v5 w' => ∃ j : Nat, v5 = .int .i64 (j : Int) ∧ Aside0 (j < t.f2.length ∧ t.f2.length ≤ kq + j) ∧ Aside0 (chI d key t.f2 = j + ((t.f2.drop (j + 1)).takeWhile (fun k => leB (headK d k) key)).length) ∧ w' = W)
 case atStart => exact ⟨0, rfl, ⟨by have := HL4.out; omega, by omega⟩, HQ0, rfl⟩
 case round =>
  clear HQ0
  obtain ⟨j, rfl, HI, HQ, hwr⟩ := hrel
  subst hwr
  have HW1 := Aside0.mk (w64s j (by have := HI.out; have := HL4.out; omega))
  have hw1 : wrap64 ((j : Int) + 1) = ((j + 1 : Nat) : Int) := HW1.out
  by_cases cj : j + 1 < t.f2.length
  case neg =>
   have cjb : decide (((j + 1 : Nat) : Int) < (t.f2.length : Int)) = false := decide_eq_false (by omega)
   have cjc : decide ((j : Int) + 1 < (t.f2.length : Int)) = false := decide_eq_false (by omega)
   have cjd : decide (j + 1 < t.f2.length) = false := decide_eq_false cj
   have cjw : decide (wrap64 ((j : Int) + 1) < (t.f2.length : Int)) = false := decide_eq_false (by rw [hw1]; omega)
   clear hw1
   have he : chI d key t.f2 = j := by rw [HQ.out, List.drop_of_length_le (by omega)]; simp
   clear cj
   go_wp2_with fail
   go_ret
   rw [he]
   exact ⟨rfl, rfl⟩
  case pos =>
   have cjb : decide (((j + 1 : Nat) : Int) < (t.f2.length : Int)) = true := decide_eq_true (by omega)
   have cjc : decide ((j : Int) + 1 < (t.f2.length : Int)) = true := decide_eq_true (by omega)
   have cjd : decide (j + 1 < t.f2.length) = true := decide_eq_true cj
   have cjw : decide (wrap64 ((j : Int) + 1) < (t.f2.length : Int)) = true := decide_eq_true (by rw [hw1]; omega)
   have pw : (0 ≤ wrap64 ((j : Int) + 1)) = True := eq_true (by rw [hw1]; omega)
   have qw : (wrap64 ((j : Int) + 1) < (t.f2.length : Int)) = True := eq_true (by rw [hw1]; omega)
   have nw : (wrap64 ((j : Int) + 1)).toNat = j + 1 := by rw [hw1]; omega
   clear hw1
   obtain ⟨mm, rfl⟩ : ∃ mm, gk = mm + 1 := ⟨gk - 1, by have := HI.out; omega⟩
   obtain ⟨ad, v, rfl, hx, hK, _⟩ := at_N HF.out (j + 1) cj
   rw [rd56_at _ _ cj] at hK
   obtain ⟨tp, kb, rfl, _, _⟩ := node_keys hK
   obtain ⟨fl, hm, hcl⟩ := node_least hK (HG.out.2.2.2.2 _ (List.getElem_mem cj))
   obtain ⟨hd, hhd⟩ : ∃ hd, hd = headK d (t.f2[j + 1]'cj) := ⟨_, rfl⟩
   have HCJ := Aside0.mk cj
   have HQ2 := Aside0.mk (show chI d key t.f2 = if leB hd key = true then (j + 1) + ((t.f2.drop (j + 1 + 1)).takeWhile (fun k => leB (headK d k) key)).length else j by
    rw [HQ.out, List.drop_eq_getElem_cons cj, List.takeWhile_cons, ← hhd]
    split
    ·simp only [List.length_cons]; omega
    ·rfl)
   rw [← hhd] at hcl
   have HM := Aside0.mk hm
   have HCL := Aside0.mk hcl
   have p5 : (0 ≤ (j : Int) + 1) = True := eq_true (by omega)
   have q5 : ((j : Int) + 1 < (t.f2.length : Int)) = True := eq_true (by omega)
   have q6 : (j + 1 < t.f2.length) = True := eq_true cj
   have p7 : (0 ≤ ((j + 1 : Nat) : Int)) = True := eq_true (by omega)
   have q7 : (((j + 1 : Nat) : Int) < (t.f2.length : Int)) = True := eq_true (by omega)
   have n5 : ((j : Int) + 1).toNat = j + 1 := by omega
   clear hhd hm hcl hK
   unfold ifP at hx
   have hx2 : wr.cell? ⟨ad.block, ad.off + (j + 1), none⟩ = some (.iface tp (.pointer (some ⟨kb, 0, none⟩))) := by simpa [World.cell?, Addr.add] using hx
   have hle := leB_eq hd key
   rcases hlb : leB hd key with _ | _
   case' false =>
    rw [hlb] at hle
    have hle2 := hle.symm
    have HE := Aside0.mk (show chI d key t.f2 = j by rw [HQ2.out, hlb]; rfl)
   case' true =>
    rw [hlb] at hle
    have hle2 := hle.symm
    have HE := Aside0.mk (show chI d key t.f2 = (j + 1) + ((t.f2.drop (j + 1 + 1)).takeWhile (fun k => leB (headK d k) key)).length by rw [HQ2.out, hlb]; rfl)
   all_goals
    clear hle hlb HQ2
    go_wp2_with ((with_reducible refine gate_dst (N := 23) rfl ?_); refine goesIg_ (some 23) rfl (by rfl) fl #[.pointer (some ⟨kb, 0, none⟩)] (run_invoke rfl rfl (HM.out _)) ?_; refine HCL.out.mono ?_; rintro e W1 ⟨rfl, rfl⟩; refine ⟨_, rfl, ?_⟩)
   ·go_roundg mm
    case measure => omega
    case rel => exact ⟨j + 1, by rw [HW1.out], ⟨by have := HI.out; have := HCJ.out; omega⟩, HE, rfl⟩
   ·go_ret
    rw [HE.out]
    exact ⟨rfl, rfl⟩
set_option maxHeartbeats 16000000 in
set_option maxRecDepth 100000 in
theorem rank_any (key : ByteArray) : ∀ (d : Nat) (r : Bool) (t : S56) (v : Value) (W : World) (ok : Nat → Prop) (_ : Kd.FK (kN d) W ok t [v]) (_ : goodD d r t) (_ : srt (keysD d t)) (_ : d ≤ 12),
   Calls Try.prog 48 #[v, .string key] W fun e W' => e = .returned (.int .i64 ((cntLt key (keysD d t) : Nat) : Int)) ∧ Below W.heap.size W W' := by
 intro d
 induction d with
 | zero =>
   intro r t v W ok hK hg hs hd
   obtain ⟨b, A, c, ke, kl, kb, kF⟩ := kN_open0 hK
   have hv : v = ifP 58 b := by simpa using ke
   subst hv
   unfold ifP
   have x1 : W.cell? ⟨b, 1, none⟩ = some (.slice A t.f1.length c) := (blk_cell kl.2.2.1 1).trans rfl
   have hu2 := Try.underlying93
   have hta := ta_00
   obtain ⟨bb, hbs⟩ := bs_ev (l := t.f1) hs (by have := hg.2.2.1; omega) key
   obtain ⟨kk, hkk⟩ := hbs.rounds
   have HBS := Aside0.mk hkk
   have HC := Aside0.mk (Kd.F_now kF)
   have HL := Aside0.mk kl.2.2.2
   clear ke kl kb kF hK hbs hkk hs hg
   go_enter Try.func48, Try.ntmps48
   go_wp2_with fail
   refine (slices_BinarySearch_string_string.calls kk _ _ _ _ _ _ _ HC.out HL.out HBS.out).mono ?_
   rintro e W1 ⟨rfl, hdr⟩
   have HB := Aside0.mk hdr.below
   clear hdr
   go_wp2_with fail
   go_ret
   exact ⟨rfl, HB.out⟩
 | succ d ih =>
   intro r t v W ok hK hg hs hd
   obtain ⟨b, A, c, ke, kl, kb, kF⟩ := kN_openS hK
   have hv : v = ifP 79 b := by simpa using ke
   subst hv
   unfold ifP
   have x1 : W.cell? ⟨b, 1, none⟩ = some (.slice A t.f2.length c) := (blk_cell kl.2.2.1 1).trans rfl
   have hu2 := Try.underlying87
   have hta := ta_S0
   have hta2 := ta_SS
   have h0 : 0 < t.f2.length := by have := hg.2.2.1; omega
   obtain ⟨at_, hat⟩ : ∃ at_, at_ = chI d key t.f2 := ⟨_, rfl⟩
   have hal : at_ < t.f2.length := by rw [hat]; exact chI_lt h0
   have hsp := rank_split (key := key) h0 hg.2.2.2.2 hs
   have HSP := Aside0.mk (show cntLt key (keysD (d + 1) t) = (((t.f2.take at_).map (keysD d)).flatten).length + cntLt key (keysD d (t.f2[at_]'hal)) ∧ srt (keysD d (t.f2[at_]'hal)) by subst hat; exact hsp)
   have HCH := Aside0.mk (child_any kl kF hg key)
   rw [← hat] at HCH
   have HAL := Aside0.mk hal
   have HF := Aside0.mk (Kd.F_mono (ok' := fun k => k < W.heap.size) (Kd.F_bound kF) (fun k hk => hk.2))
   have HG := Aside0.mk hg
   have HD := Aside0.mk hd
   have IH := Aside0.mk ih
   have HLC := Aside0.mk kl.2.2.2
   have HB := Aside0.mk (Below.refl W.heap.size W)
   obtain ⟨i0, hi0⟩ := Option.isSome_iff_exists.1 (show (Try.prog.info? 67).isSome = true by kernel_rfl)
   have hcut := cut_to (P := Try.prog) 77 67 .i64 Try.underlying77 hi0 A t.f2.length c (at_ : Int) (by omega) (by omega) kl.2.2.2
   rw [Int.toNat_natCast] at hcut
   have HX1 := Aside0.mk kl.2.2.1
   clear ke kl kb kF hK hsp hs hg hd ih hat h0 hi0
   go_enter Try.func48, Try.ntmps48
   go_wp2_with fail
   refine HCH.out.mono ?_
   rintro e W1 ⟨rfl, rfl⟩
   go_wp2_with fail
   go_loopg [10, 12, 40] at_ (fun kq v10 v12 v40 w' => ∃ j : Nat, v40 = .int .i64 (j : Int) ∧ v10 = .int .i64 (((((t.f2.take j).map (keysD d)).flatten).length : Nat) : Int) ∧ Aside0 (j ≤ at_ ∧ at_ ≤ kq + j) ∧ Aside0 (Below W1.heap.size W1 w'))
   case atStart => exact ⟨0, rfl, rfl, ⟨by omega, by omega⟩, HB⟩
   case round =>
    clear HB x1
    obtain ⟨j, rfl, rfl, HI, HB⟩ := hrel
    replace HF := Aside0.mk (Kd.F_below HF.out HB.out)
    by_cases cj : j < at_
    case neg =>
     have cjb : decide (j < at_) = false := decide_eq_false cj
     have hj : j = at_ := by have := HI.out; omega
     subst hj
     have KB := blk_below HX1.out HB.out
     have x1 : wr.cell? ⟨b, 1, none⟩ = some (.slice A t.f2.length c) := (blk_cell KB 1).trans rfl
     obtain ⟨ad, v2, rfl, hx, hK, _⟩ := at_N HF.out j HAL.out
     rw [rd56_at _ _ HAL.out] at hK
     have HK := Aside0.mk hK
     have p5 : (0 ≤ (j : Int)) = True := eq_true (by omega)
     have q5 : ((j : Int) < (t.f2.length : Int)) = True := eq_true (by have := HAL.out; omega)
     have q6 : (j < t.f2.length) = True := eq_true HAL.out
     obtain ⟨s, hs⟩ : ∃ s, s = (((t.f2.take j).map (keysD d)).flatten).length := ⟨_, rfl⟩
     have hsp := HSP.out
     rw [← hs] at hsp ⊢
     have HS := Aside0.mk hsp
     have hw : wrap64 ((s : Int) + ((cntLt key (keysD d (t.f2[j]'HAL.out)) : Nat) : Int)) = ((s + cntLt key (keysD d (t.f2[j]'HAL.out)) : Nat) : Int) := by
      have h1 := cnt_le key (keysD (d + 1) t)
      have h2 := keysD_le HG.out
      have h3 := pow4 (d + 1 + 1) 14 (by have := HD.out; omega)
      rw [hsp.1] at h1
      unfold wrap64
      omega
     have HW := Aside0.mk hw
     clear hw hsp hK KB hs
     go_wp2_with fail
     refine (IH.out false (t.f2[j]'HAL.out) v2 wr _ HK.out (HG.out.2.2.2.2 _ (List.getElem_mem HAL.out)) HS.out.2 (by have := HD.out; omega)).mono ?_
     rintro e W2 ⟨rfl, hb⟩
     have HB2 := Aside0.mk (below_lo HB.out hb HB.out.size)
     clear hb
     go_wp2_with fail
     go_ret
     rw [HS.out.1]
     exact ⟨by first | (rw [HW.out]; done) | (simp [HW.out]; done), HB2.out⟩
    case pos =>
     have cjb : decide (j < at_) = true := decide_eq_true cj
     obtain ⟨mm, rfl⟩ : ∃ mm, gk = mm + 1 := ⟨gk - 1, by have := HI.out; omega⟩
     have hjl : j < t.f2.length := by have := HAL.out; omega
     obtain ⟨ad, v2, rfl, hx, hK, _⟩ := at_N HF.out j hjl
     rw [rd56_at _ _ hjl] at hK
     obtain ⟨tp, kb, rfl, _, _⟩ := node_keys hK
     have hm := node_keys2 hK
     obtain ⟨kl, hkl⟩ : ∃ kl, kl = (keysD d (t.f2[j]'hjl)).length := ⟨_, rfl⟩
     obtain ⟨s, hs⟩ : ∃ s, s = (((t.f2.take j).map (keysD d)).flatten).length := ⟨_, rfl⟩
     rw [← hkl] at hm
     have HS := Aside0.mk (show (((t.f2.take (j + 1)).map (keysD d)).flatten).length = s + kl by rw [sum_take hjl, ← hkl, ← hs])
     rw [← hs]
     have hw : wrap64 ((s : Int) + (kl : Int)) = ((s + kl : Nat) : Int) := by
      have h1 := sum_le (t.f2.take (j + 1)) (fun k hk => HG.out.2.2.2.2 k (List.mem_of_mem_take hk))
      rw [HS.out, List.length_take] at h1
      have h2 : min (j + 1) t.f2.length * 4 ^ (d + 1) ≤ 4 * 4 ^ (d + 1) := Nat.mul_le_mul_right _ (by have := HG.out.2.2.2.1; omega)
      have h3 := pow4 (d + 2) 14 (by have := HD.out; omega)
      rw [Nat.pow_succ 4 (d + 1)] at h3
      unfold wrap64
      omega
     have HW := Aside0.mk hw
     have HW1 := Aside0.mk (w64s j (by have := HG.out.2.2.2.1; omega))
     have HM := Aside0.mk hm
     have p5 : (0 ≤ (j : Int)) = True := eq_true (by omega)
     have q5 : ((j : Int) < (at_ : Int)) = True := eq_true (by omega)
     have q6 : (j < at_) = True := eq_true cj
     have HCJ := Aside0.mk cj
     unfold ifP at hx
     clear hs hkl hm hw hK
     go_wp2_with ((with_reducible refine gate_dst (N := 46) rfl ?_); refine goesI_ (some 46) rfl rfl 124 #[.agg #[.int .i64 (kl : Int)]] (run_invoke rfl rfl HM.out) ?_; refine (keys_any _ _).mono ?_; rintro e We ⟨rfl, hb⟩; refine ⟨_, rfl, ?_⟩; have HB2 := Aside0.mk (below_lo HB.out hb HB.out.size); clear hb)
     go_roundg mm
     case measure => omega
     case rel => exact ⟨j + 1, by first | (rw [HW1.out]; done) | (simp; done), by rw [HS.out]; first | (rw [HW.out]; done) | (simp; done), ⟨by have := HI.out; have := HCJ.out; omega⟩, HB2⟩

/-! ### zzs_rank2: a text by hand -/
-- uses rankM kids_bound keys_at OfEnd RootEnd
theorem ta_n0 (w : World) : (Instr.typeAssert .nilIface 67 58 true).run Try.prog w = .ok (.tuple #[.pointer none, .bool false]) w := by kernel_rfl
theorem ta_nS (w : World) : (Instr.typeAssert .nilIface 67 79 true).run Try.prog w = .ok (.tuple #[.pointer none, .bool false]) w := by kernel_rfl
set_option maxHeartbeats 4000000 in
set_option maxRecDepth 100000 in
theorem rank_nil (key : ByteArray) (W : World) : Calls Try.prog 48 #[.nilIface, .string key] W fun e W' => e = .returned (.int .i64 0) ∧ Below W.heap.size W W' := by
 have hta := ta_n0
 have hta2 := ta_nS
 go_enter Try.func48, Try.ntmps48
 go_wp2_with fail
 go_ret
 exact ⟨rfl, Below.refl _ _⟩
theorem keys_of {ns : List S90} {x : S56} {okk : Bool} (h1 : okk = true → ∃ d, okT ns d x) (h2 : okk = false → ∀ d t, ¬ okT ns d t) (h3 : x = z56 ∨ ∃ d, goodD d true x ∧ d ≤ 12) :
  ∃ K Ks, spec_l3Keys.f K x.f0 x.f1 x.f2 = some Ks ∧ Ks.length ≤ 4 ^ 13 ∧ treeKeys ns = if okk = true then some Ks else none := by
 have hz : spec_l3Keys.f 3 (z56 : S56).f0 (z56 : S56).f1 (z56 : S56).f2 = some [] := rfl
 rcases okk with _ | _
 ·have e : treeKeys ns = none := treeKeys_none (h2 rfl)
  rcases h3 with h3 | ⟨d, hg, hd⟩
  ·exact ⟨3, [], by rw [h3]; exact hz, by simp, e⟩
  ·exact ⟨6 * d + 1, keysD d x, keys_at d true x _ hg (by omega) (Nat.le_refl _), Nat.le_trans (keysD_le hg) (pow4 _ _ (by omega)), e⟩
 ·obtain ⟨d, hok⟩ := h1 rfl
  exact ⟨6 * d + 1, keysD d x, keys_at d true x _ hok.1 (by have := hok.depth; omega) (Nat.le_refl _), Nat.le_trans (keysD_le hok.1) (pow4 _ _ (by have := hok.depth; omega)), treeKeys_of hok⟩
theorem cnt_take {key : ByteArray} {ks : List ByteArray} {j : Nat} (h : j < ks.length) : cntLt key (ks.take (j + 1)) = cntLt key (ks.take j) + (if lt ks[j] key = true then 1 else 0) := by
 rw [List.take_add_one, List.getElem?_eq_getElem h, Option.toList_some, cnt_append]
 unfold cntLt
 rw [List.countP_singleton]
noncomputable def m_TreeRank.f (_k : Nat) (l : List S90) (a1 : ByteArray) : Option Int := if l.length ≤ 1048576 ∧ l.all (fun x => decide (x.f2.length ≤ 1048576)) = true then some (rankM l a1) else none
set_option maxHeartbeats 8000000 in
set_option maxRecDepth 100000 in
theorem impl_TreeRank.calls (k : Nat) (A0_0 : Option Addr) (c0_0 : Nat) (l0_0 : List (S90)) (a1 : ByteArray) (r : Int) (w : World) (hr0_0 : Kd.C k90 w A0_0 l0_0.length l0_0) (hc0_0 : l0_0.length ≤ c0_0) (h : m_TreeRank.f k l0_0 a1 = some r) :
  Calls Try.prog 20 #[.agg #[.slice A0_0 l0_0.length c0_0], .string a1] w fun e w' => e = .returned (.int .i64 r) ∧ Below w.heap.size w w' := by
 unfold m_TreeRank.f at h
 split at h
 case isFalse => cases h
 next hL =>
 injection h with h
 subst h
 have hb0 : Below w.heap.size w (w.alloc (.cells #[.slice A0_0 l0_0.length c0_0] 24)) := below_alloc (Below.refl _ _) _
 have K1 := Aside0.mk (blk_new w (.cells #[.slice A0_0 l0_0.length c0_0] 24))
 have HB := Aside0.mk hb0
 have HR := Aside0.mk (Kd.C_below hr0_0 hb0)
 have HL := Aside0.mk (And.intro hL hc0_0)
 have hu24 := Try.underlying24
 clear hb0 hL hr0_0 hc0_0
 go_enter Try.func20, Try.ntmps20
 go_upto_region 1 with (fail)
 generalize (w.alloc (.cells #[.slice A0_0 l0_0.length c0_0] 24)) = W0 at *
 have x0 : W0.cell? ⟨w.heap.size, 0, none⟩ = some (.slice A0_0 l0_0.length c0_0) := (blk_cell K1.out 0).trans rfl
 go_wp2_with fail
 refine (root_any l0_0 HL.out.1.1 A0_0 c0_0 W0 HR.out HL.out.2).mono ?_
 rintro e W5 ⟨hb, hend⟩
 have HB5 := Aside0.mk (below_lo HB.out hb HB.out.size)
 clear hb x0
 rcases hend with ⟨rfl, hno⟩ | ⟨d, t, tp, b, hok, rfl, hK⟩
 ·have HV := Aside0.mk (show rankM l0_0 a1 = 0 by unfold rankM; rw [treeKeys_none hno])
  go_wp2_with fail
  refine (rank_nil a1 W5).mono ?_
  rintro e W6 ⟨rfl, hb⟩
  have HB6 := Aside0.mk (below_lo HB5.out hb HB5.out.size)
  clear hb
  go_wp2_with fail
  go_ret
  rw [HV.out]
  exact ⟨rfl, HB6.out⟩
 ·have HV := Aside0.mk (show rankM l0_0 a1 = ((cntLt a1 (keysD d t) : Nat) : Int) by unfold rankM; rw [treeKeys_of hok])
  have HK := Aside0.mk hK
  clear hK
  go_wp2_with fail
  refine (rank_any a1 d true t (ifP tp b) W5 _ HK.out hok.1 (ascK_srt hok.2.2.2) hok.depth).mono ?_
  rintro e W6 ⟨rfl, hb⟩
  have HB6 := Aside0.mk (below_lo HB5.out hb HB5.out.size)
  clear hb
  go_wp2_with fail
  go_ret
  rw [HV.out]
  exact ⟨rfl, HB6.out⟩
set_option maxHeartbeats 8000000 in
set_option maxRecDepth 100000 in
theorem spec_TreeRank.calls (k : Nat) (A0_0 : Option Addr) (c0_0 : Nat) (l0_0 : List (S90)) (a1 : ByteArray) (r : Int) (w : World) (hr0_0 : Kd.C k90 w A0_0 l0_0.length l0_0) (hc0_0 : l0_0.length ≤ c0_0) (h : m_TreeRank.f k l0_0 a1 = some r) :
  Calls Try.prog 19 #[.agg #[.slice A0_0 l0_0.length c0_0], .string a1] w fun e w' => e = .returned (.int .i64 r) ∧ Below w.heap.size w w' := by
 unfold m_TreeRank.f at h
 split at h
 case isFalse => cases h
 next hL =>
 injection h with h
 subst h
 have hb0 : Below w.heap.size w (w.alloc (.cells #[.slice A0_0 l0_0.length c0_0] 24)) := below_alloc (Below.refl _ _) _
 have K1 := Aside0.mk (blk_new w (.cells #[.slice A0_0 l0_0.length c0_0] 24))
 have HB := Aside0.mk hb0
 have HR := Aside0.mk (Kd.C_below hr0_0 hb0)
 have HL := Aside0.mk (And.intro hL hc0_0)
 have hu24 := Try.underlying24
 have hu56 := Try.underlying56
 clear hb0 hL hr0_0 hc0_0
 go_enter Try.func19, Try.ntmps19
 go_upto_region 1 with (fail)
 generalize (w.alloc (.cells #[.slice A0_0 l0_0.length c0_0] 24)) = W0 at *
 have x0 : W0.cell? ⟨w.heap.size, 0, none⟩ = some (.slice A0_0 l0_0.length c0_0) := (blk_cell K1.out 0).trans rfl
 go_wp2_with fail
 refine (l3Of_any l0_0 HL.out.1.1 (kids_bound HL.out.1.2) A0_0 c0_0 W0 HR.out HL.out.2).mono ?_
 rintro e W5 ⟨x, v1, v2, okk, rfl, hK, hb, h1, h2, h3⟩
 obtain ⟨A5, c5, A6, c6, he, l1, F1, l2, F2⟩ := k56_openF hK
 simp only [List.cons.injEq, and_true, true_and] at he
 obtain ⟨rfl, rfl⟩ := he
 have HB5 := Aside0.mk (below_lo HB.out hb HB.out.size)
 obtain ⟨K, Ks, hk, hkl, htk⟩ := keys_of h1 h2 h3
 have HK := Aside0.mk hk
 have HKL := Aside0.mk hkl
 have HTK := Aside0.mk htk
 have HL2 := Aside0.mk (And.intro l1 l2)
 have HF1 := Aside0.mk F1
 have HF2 := Aside0.mk F2
 clear hK hb h1 h2 h3 x0 hk hkl htk l1 F1 l2 F2
 go_upto_region 2 with (fail)
 have hb6 : Below W5.heap.size W5 (W5.alloc (.cells #[.bool x.f0, .slice A5 x.f1.length c5, .slice A6 x.f2.length c6] 56)) := below_alloc (Below.refl _ _) _
 have K4 := Aside0.mk (blk_new W5 (.cells #[.bool x.f0, .slice A5 x.f1.length c5, .slice A6 x.f2.length c6] 56))
 replace HB5 := Aside0.mk (below_lo HB5.out hb6 HB5.out.size)
 replace HF1 := Aside0.mk (Kd.F_below HF1.out hb6)
 replace HF2 := Aside0.mk (Kd.F_below HF2.out hb6)
 generalize (W5.alloc (.cells #[.bool x.f0, .slice A5 x.f1.length c5, .slice A6 x.f2.length c6] 56)) = W6 at *
 clear hb6
 obtain ⟨z0, z1, z2, u0, u1, u2⟩ := blk_cells3 K4.out
 go_wp2_with fail
 refine (spec_l3Keys.calls K _ _ _ _ _ _ _ _ _ (Kd.F_now HF1.out) HL2.out.1 (Kd.F_now HF2.out) HL2.out.2 HK.out).mono ?_
 rintro e W7 ⟨v8, rfl, hR, hb⟩
 obtain ⟨A8, c8, rfl⟩ := Kd.R_slice hR
 have HRK := Aside0.mk (Kd.R_reads' hR).2.2
 have HB7 := Aside0.mk (below_lo HB5.out hb HB5.out.size)
 clear hR hb z0 z1 z2 u0 u1 u2
 go_wp2_with fail
 rcases okk with _ | _
 case false =>
  have HV := Aside0.mk (show rankM l0_0 a1 = 0 by unfold rankM; rw [HTK.out]; rfl)
  go_loopg [7, 9] 0 (fun kq v7 v9 w' => v7 = .int .i64 0 ∧ w' = W7)
  case atStart => exact ⟨rfl, rfl⟩
  case round =>
   obtain ⟨rfl, rfl⟩ := hrel
   go_wp2_with fail
   go_ret
   rw [HV.out]
   exact ⟨rfl, HB7.out⟩
 case true =>
  have HV := Aside0.mk (show rankM l0_0 a1 = ((cntLt a1 Ks : Nat) : Int) by unfold rankM; rw [HTK.out]; rfl)
  go_loopg [7, 9] Ks.length (fun kq v7 v9 w' => ∃ j : Nat, v9 = .int .i64 (j : Int) ∧ v7 = .int .i64 ((cntLt a1 (Ks.take j) : Nat) : Int) ∧ Aside0 (j ≤ Ks.length ∧ Ks.length ≤ kq + j) ∧ w' = W7)
  case atStart => exact ⟨0, rfl, rfl, ⟨by omega, by omega⟩, rfl⟩
  case round =>
   obtain ⟨j, rfl, rfl, HI, hw7⟩ := hrel
   subst hw7
   by_cases cj : j < Ks.length
   case neg =>
    have cjb : decide (j < Ks.length) = false := decide_eq_false cj
    have HV2 := Aside0.mk (show rankM l0_0 a1 = ((cntLt a1 (Ks.take j) : Nat) : Int) by rw [HV.out, List.take_of_length_le (by omega)])
    clear cj
    go_wp2_with fail
    go_ret
    rw [HV2.out]
    exact ⟨rfl, HB7.out⟩
   case pos =>
    have cjb : decide (j < Ks.length) = true := decide_eq_true cj
    obtain ⟨mm, rfl⟩ : ∃ mm, gk = mm + 1 := ⟨gk - 1, by have := HI.out; omega⟩
    obtain ⟨ad, rfl, hx⟩ := Kd.at_string HRK.out (j : Int) (by omega) (by omega)
    rw [rdb_at _ _ cj] at hx
    simp only [Int.toNat_natCast] at hx
    have p5 : (0 ≤ (j : Int)) = True := eq_true (by omega)
    have q5 : ((j : Int) < (Ks.length : Int)) = True := eq_true (by omega)
    have q6 : (j < Ks.length) = True := eq_true cj
    have HT := Aside0.mk (cnt_take (key := a1) cj)
    have HCL := Aside0.mk (cnt_le a1 (Ks.take j))
    have HTL := Aside0.mk (List.length_take_le j Ks)
    have HCJ := Aside0.mk cj
    have HW1 := Aside0.mk (w64m j (by have := HKL.out; omega))
    obtain ⟨n, hn⟩ : ∃ n, n = cntLt a1 (Ks.take j) := ⟨_, rfl⟩
    rw [← hn] at HT HCL ⊢
    have HWn := Aside0.mk (w64m n (by have := HKL.out; have := HCL.out; have := HTL.out; omega))
    obtain ⟨kj, hkj⟩ : ∃ kj, kj = Ks[j]'cj := ⟨_, rfl⟩
    rw [← hkj] at hx HT
    clear hn hkj
    cases hlt : Op.bytesLess kj.toList a1.toList
    case false =>
     have HE := Aside0.mk (show cntLt a1 (Ks.take (j + 1)) = n by rw [HT.out]; simp [lt, hlt])
     go_wp2_with fail
     go_roundg mm
     case measure => omega
     case rel => exact ⟨j + 1, by first | (rw [HW1.out]; done) | (simp; done), by rw [HE.out], ⟨by have := HI.out; have := HCJ.out; omega⟩, rfl⟩
    case true =>
     have HE := Aside0.mk (show cntLt a1 (Ks.take (j + 1)) = n + 1 by rw [HT.out]; simp [lt, hlt])
     go_wp2_with fail
     go_roundg mm
     case measure => omega
     case rel => exact ⟨j + 1, by first | (rw [HW1.out]; done) | (simp; done), by rw [HE.out]; first | (rw [HWn.out]; done) | (simp; done), ⟨by have := HI.out; have := HCJ.out; omega⟩, rfl⟩

/-! ### zzz_guard1_TreeRank: a text by hand -/
set_option maxHeartbeats 4000000 in
set_option maxRecDepth 100000 in
theorem guard1_FnExactTreeRank (A0_0 : Option Addr) (c0_0 : Nat) (l0_0 : List S98) (a1 : ByteArray) (r1 : Int) (w : World)
  (hr0_0 : Kd.C k98 w A0_0 l0_0.length l0_0) (hc0_0 : l0_0.length ≤ c0_0)
  (E2 : Ev (fun k => laws_szTree.f k l0_0 1048576) r1) (E2p : r1 < 0) (G1 : a1.size ≤ 1048576) :
  Calls Try.prog 5 #[.agg #[.slice A0_0 l0_0.length c0_0], .string a1] w fun e w' => e = .returned (.bool true) ∧ Below w.heap.size w w' := by
 obtain ⟨k_E2, h_E2⟩ := E2.rounds
 have H_E2 := Aside0.mk h_E2
 clear E2 h_E2
 have E2pb : decide (r1 < 0) = true := decide_eq_true (by omega)
 have HR0_0 := Aside0.mk hr0_0
 have HC0_0 := Aside0.mk hc0_0
 clear hr0_0 hc0_0
 have hu31 := Try.underlying31
 have HB := Aside0.mk (Below.refl w.heap.size w)
 go_enter Try.func5, Try.ntmps5
 go_wp2_with fail
 refine (laws_szTree.calls k_E2 _ _ l0_0 1048576 r1 _ (Kd.C_below HR0_0.out (below_alloc HB.out _)) HC0_0.out H_E2.out).mono ?_
 rintro e w1 ⟨rfl, gb⟩
 have hz1 : w.heap.size + 1 ≤ w1.heap.size := by have := gb.size; first | omega | (simp at this; omega)
 have N_HB := Aside0.mk (below_step (below_alloc HB.out _) gb)
 have K2 := Aside0.mk (show w1.heap[w.heap.size]? = some (.cells #[.slice A0_0 l0_0.length c0_0] 31 (0, 0)) from by have := blk_below (blk_new _ _) gb; simpa using this)
 clear HB
 have HB := N_HB
 clear N_HB
 clear gb
 go_wp2
 go_ret
 exact ⟨rfl, by first | exact HB.out | exact below_alloc HB.out _ | exact below_alloc (below_alloc HB.out _) _ | exact below_alloc (below_alloc (below_alloc HB.out _) _) _⟩

/-! ### zzz_guardL1_TreeRank: a text by hand -/
set_option maxHeartbeats 4000000 in
set_option maxRecDepth 100000 in
theorem guardL1_FnExactTreeRank (A0_0 : Option Addr) (c0_0 : Nat) (l0_0 : List S98) (a1 : ByteArray)  (w : World)
  (hr0_0 : Kd.C k98 w A0_0 l0_0.length l0_0) (hc0_0 : l0_0.length ≤ c0_0)
   (G1 : 1048576 < a1.size) :
  Calls Try.prog 5 #[.agg #[.slice A0_0 l0_0.length c0_0], .string a1] w fun e w' => e = .returned (.bool true) ∧ Below w.heap.size w w' := by
 have HR0_0 := Aside0.mk hr0_0
 have HC0_0 := Aside0.mk hc0_0
 clear hr0_0 hc0_0
 have HB := Aside0.mk (Below.refl w.heap.size w)
 go_enter Try.func5, Try.ntmps5
 go_wp2
 go_ret
 exact ⟨rfl, by first | exact HB.out | exact below_alloc HB.out _ | exact below_alloc (below_alloc HB.out _) _ | exact below_alloc (below_alloc (below_alloc HB.out _) _) _⟩

/-! ### zzz_walk_TreeRank: a text by hand -/
set_option maxHeartbeats 4000000 in
set_option maxRecDepth 100000 in
theorem walk_FnExactTreeRank (A0_0 : Option Addr) (c0_0 : Nat) (l0_0 : List S98) (a1 : ByteArray) (r1 : Int) (r3 : List S90) (r6 : Int) (w : World)
  (hr0_0 : Kd.C k98 w A0_0 l0_0.length l0_0) (hc0_0 : l0_0.length ≤ c0_0)
  (E2 : Ev (fun k => laws_szTree.f k l0_0 1048576) r1) (E2p : 0 ≤ r1) (E4 : Ev (fun k => laws_toTree.f k l0_0) r3) (E7 : Ev (fun k => m_TreeRank.f k r3 a1) r6) (E9 : Ev (fun k => m_TreeRank.f k r3 a1) r6) (E11 : Ev (fun k => laws_eqTree.f k r3 r3) true) (G1 : a1.size ≤ 1048576) :
  Calls Try.prog 5 #[.agg #[.slice A0_0 l0_0.length c0_0], .string a1] w fun e w' => e = .returned (.bool true) ∧ Below w.heap.size w w' := by
 obtain ⟨k_E2, h_E2⟩ := E2.rounds
 have H_E2 := Aside0.mk h_E2
 clear E2 h_E2
 obtain ⟨k_E4, h_E4⟩ := E4.rounds
 have H_E4 := Aside0.mk h_E4
 clear E4 h_E4
 obtain ⟨k_E7, h_E7⟩ := E7.rounds
 have H_E7 := Aside0.mk h_E7
 clear E7 h_E7
 obtain ⟨k_E9, h_E9⟩ := E9.rounds
 have H_E9 := Aside0.mk h_E9
 clear E9 h_E9
 obtain ⟨k_E11, h_E11⟩ := E11.rounds
 have H_E11 := Aside0.mk h_E11
 clear E11 h_E11
 have E2pb : decide (r1 < 0) = false := decide_eq_false (by omega)
 have HR0_0 := Aside0.mk hr0_0
 have HC0_0 := Aside0.mk hc0_0
 clear hr0_0 hc0_0
 have hu24 := Try.underlying24
 have hu31 := Try.underlying31
 have HB := Aside0.mk (Below.refl w.heap.size w)
 go_enter Try.func5, Try.ntmps5
 go_wp2_with fail
 refine (laws_szTree.calls k_E2 _ _ l0_0 1048576 r1 _ (Kd.C_below HR0_0.out (below_alloc HB.out _)) HC0_0.out H_E2.out).mono ?_
 rintro e w1 ⟨rfl, gb⟩
 have hz1 : w.heap.size + 1 ≤ w1.heap.size := by have := gb.size; first | omega | (simp at this; omega)
 have N_HB := Aside0.mk (below_step (below_alloc HB.out _) gb)
 have K2 := Aside0.mk (show w1.heap[w.heap.size]? = some (.cells #[.slice A0_0 l0_0.length c0_0] 31 (0, 0)) from by have := blk_below (blk_new _ _) gb; simpa using this)
 clear HB
 have HB := N_HB
 clear N_HB
 clear gb
 have y2 : w.heap.size < w1.heap.size := by omega
 have z2_0 : w1.cell? ⟨w.heap.size, 0, none⟩ = some (.slice A0_0 l0_0.length c0_0) := (blk_cell K2.out 0).trans rfl
 go_wp2_with fail
 clear y2 z2_0
 refine (laws_toTree.calls k_E4 _ _ l0_0 r3 _ (Kd.C_below HR0_0.out HB.out) HC0_0.out H_E4.out).mono ?_
 rintro e w2 ⟨q5u0, rfl, q5g0, gb⟩
 have q5X0 := Aside0.mk (S_iv q5g0 w.heap.size (w1.heap.size) (by have := HB.out.size; first | (simp; done) | (simp; omega) | omega) (by simp))
 clear q5g0
 obtain ⟨q5A0, q5c0, rfl⟩ := Kd.S_slice q5X0.out
 have hz2 : w1.heap.size + 0 ≤ w2.heap.size := by have := gb.size; first | omega | (simp at this; omega)
 have N_HB := Aside0.mk (below_step HB.out gb)
 have N_K2 := Aside0.mk (blk_below K2.out gb)
 clear HB K2
 have HB := N_HB
 have K2 := N_K2
 clear N_HB N_K2
 clear gb
 have y2 : w.heap.size < w2.heap.size := by omega
 have z2_0 : w2.cell? ⟨w.heap.size, 0, none⟩ = some (.slice A0_0 l0_0.length c0_0) := (blk_cell K2.out 0).trans rfl
 go_wp2_with fail
 clear y2 z2_0
 refine (spec_TreeRank.calls k_E7 _ _ r3 a1 r6 _ (Kd.S_reads' q5X0.out).2.2 (Kd.S_reads' q5X0.out).2.1 H_E7.out).mono ?_
 rintro e w3 ⟨rfl, gb⟩
 have hz3 : w2.heap.size + 0 ≤ w3.heap.size := by have := gb.size; first | omega | (simp at this; omega)
 have N_HB := Aside0.mk (below_step HB.out gb)
 have N_q5X0 := Aside0.mk (Kd.S_below q5X0.out gb)
 have N_K2 := Aside0.mk (blk_below K2.out gb)
 clear HB q5X0 K2
 have HB := N_HB
 have q5X0 := N_q5X0
 have K2 := N_K2
 clear N_HB N_q5X0 N_K2
 clear gb
 have y2 : w.heap.size < w3.heap.size := by omega
 have z2_0 : w3.cell? ⟨w.heap.size, 0, none⟩ = some (.slice A0_0 l0_0.length c0_0) := (blk_cell K2.out 0).trans rfl
 go_wp2_with fail
 clear y2 z2_0
 refine (laws_toTree.calls k_E4 _ _ l0_0 r3 _ (Kd.C_below HR0_0.out HB.out) HC0_0.out H_E4.out).mono ?_
 rintro e w4 ⟨q8u0, rfl, q8g0, gb⟩
 have q8X0 := Aside0.mk (S_iv q8g0 w.heap.size (w3.heap.size) (by have := HB.out.size; first | (simp; done) | (simp; omega) | omega) (by simp))
 clear q8g0
 obtain ⟨q8A0, q8c0, rfl⟩ := Kd.S_slice q8X0.out
 have hz4 : w3.heap.size + 0 ≤ w4.heap.size := by have := gb.size; first | omega | (simp at this; omega)
 have N_HB := Aside0.mk (below_step HB.out gb)
 have N_q5X0 := Aside0.mk (Kd.S_below q5X0.out gb)
 have N_K2 := Aside0.mk (blk_below K2.out gb)
 clear HB q5X0 K2
 have HB := N_HB
 have q5X0 := N_q5X0
 have K2 := N_K2
 clear N_HB N_q5X0 N_K2
 clear gb
 go_wp2_with fail
 refine (impl_TreeRank.calls k_E9 _ _ r3 a1 r6 _ (Kd.C_alloc (Kd.S_reads' q8X0.out).2.2 _) (Kd.S_reads' q8X0.out).2.1 H_E9.out).mono ?_
 rintro e w5 ⟨rfl, gb⟩
 have hz5 : w4.heap.size + 1 ≤ w5.heap.size := by have := gb.size; first | omega | (simp at this; omega)
 have N_HB := Aside0.mk (below_step (below_alloc HB.out _) gb)
 have N_q5X0 := Aside0.mk (Kd.S_below (Kd.S_alloc q5X0.out _) gb)
 have N_q8X0 := Aside0.mk (Kd.S_below (Kd.S_alloc q8X0.out _) gb)
 have N_K2 := Aside0.mk (blk_below (blk_alloc K2.out _) gb)
 have K7 := Aside0.mk (show w5.heap[w4.heap.size]? = some (.cells #[.slice q8A0 r3.length q8c0] 24 (0, 0)) from by have := blk_below (blk_new _ _) gb; simpa using this)
 clear HB q5X0 q8X0 K2
 have HB := N_HB
 have q5X0 := N_q5X0
 have q8X0 := N_q8X0
 have K2 := N_K2
 clear N_HB N_q5X0 N_q8X0 N_K2
 clear gb
 have y7 : w4.heap.size < w5.heap.size := by omega
 have z7_0 : w5.cell? ⟨w4.heap.size, 0, none⟩ = some (.slice q8A0 r3.length q8c0) := (blk_cell K7.out 0).trans rfl
 have y2 : w.heap.size < w5.heap.size := by omega
 have z2_0 : w5.cell? ⟨w.heap.size, 0, none⟩ = some (.slice A0_0 l0_0.length c0_0) := (blk_cell K2.out 0).trans rfl
 go_wp2_with fail
 go_region_held3 (fun w' => w'.cell? ⟨w4.heap.size, 0, none⟩ = some (.slice q8A0 r3.length q8c0) ∧ w'.cell? ⟨w.heap.size, 0, none⟩ = some (.slice A0_0 l0_0.length c0_0)) (go_keep) (first | (go_at_call 17; (refine (laws_toTree.calls k_E4 _ _ l0_0 r3 _ (Kd.C_below HR0_0.out (below_drew HB.out)) HC0_0.out H_E4.out).mono ?_); (rintro e w6 ⟨q10u0, rfl, q10g0, gb⟩); (have q10X0 := Aside0.mk (S_iv q10g0 w.heap.size (w5.heap.size) (by have := HB.out.size; first | (simp; done) | (simp; omega) | omega) (by simp))); (clear q10g0); (obtain ⟨q10A0, q10c0, rfl⟩ := Kd.S_slice q10X0.out); (have hz6 : w5.heap.size + 0 ≤ w6.heap.size := by have := gb.size; first | omega | (simp at this; omega)); (have N_HB := Aside0.mk (below_step (below_drew HB.out) gb)); (have N_q5X0 := Aside0.mk (Kd.S_below (Kd.S_drew q5X0.out) gb)); (have N_q8X0 := Aside0.mk (Kd.S_below (Kd.S_drew q8X0.out) gb)); (have N_K2 := Aside0.mk (blk_below (blk_drew K2.out) gb)); (have N_K7 := Aside0.mk (blk_below (blk_drew K7.out) gb)); (clear HB q5X0 q8X0 K2 K7); (have HB := N_HB); (have q5X0 := N_q5X0); (have q8X0 := N_q8X0); (have K2 := N_K2); (have K7 := N_K7); (clear N_HB N_q5X0 N_q8X0 N_K2 N_K7); (clear gb); (clear y7 z7_0 y2 z2_0); (have y7 : w4.heap.size < w6.heap.size := by omega); (have z7_0 : w6.cell? ⟨w4.heap.size, 0, none⟩ = some (.slice q8A0 r3.length q8c0) := (blk_cell K7.out 0).trans rfl); (have y2 : w.heap.size < w6.heap.size := by omega); (have z2_0 : w6.cell? ⟨w.heap.size, 0, none⟩ = some (.slice A0_0 l0_0.length c0_0) := (blk_cell K2.out 0).trans rfl)) | (go_at_call 12; (refine (laws_eqTree.calls k_E11 _ _ r3 _ _ r3 true _ (Kd.S_reads' q8X0.out).2.2 (Kd.S_reads' q8X0.out).2.1 (Kd.S_reads' q10X0.out).2.2 (Kd.S_reads' q10X0.out).2.1 H_E11.out).mono ?_); (rintro e w7 ⟨rfl, gb⟩); (have hz7 : w6.heap.size + 0 ≤ w7.heap.size := by have := gb.size; first | omega | (simp at this; omega)); (have N_HB := Aside0.mk (below_step HB.out gb)); (have N_q5X0 := Aside0.mk (Kd.S_below q5X0.out gb)); (have N_q8X0 := Aside0.mk (Kd.S_below q8X0.out gb)); (have N_q10X0 := Aside0.mk (Kd.S_below q10X0.out gb)); (have N_K2 := Aside0.mk (blk_below K2.out gb)); (have N_K7 := Aside0.mk (blk_below K7.out gb)); (clear HB q5X0 q8X0 q10X0 K2 K7); (have HB := N_HB); (have q5X0 := N_q5X0); (have q8X0 := N_q8X0); (have q10X0 := N_q10X0); (have K2 := N_K2); (have K7 := N_K7); (clear N_HB N_q5X0 N_q8X0 N_q10X0 N_K2 N_K7); (clear gb); (clear y7 z7_0 y2 z2_0); (have y7 : w4.heap.size < w7.heap.size := by omega); (have z7_0 : w7.cell? ⟨w4.heap.size, 0, none⟩ = some (.slice q8A0 r3.length q8c0) := (blk_cell K7.out 0).trans rfl); (have y2 : w.heap.size < w7.heap.size := by omega); (have z2_0 : w7.cell? ⟨w.heap.size, 0, none⟩ = some (.slice A0_0 l0_0.length c0_0) := (blk_cell K2.out 0).trans rfl)))
 clear y7 z7_0 y2 z2_0
 go_wp2
 go_ret
 exact ⟨rfl, by first | exact HB.out | exact below_alloc HB.out _ | exact below_alloc (below_alloc HB.out _) _ | exact below_alloc (below_alloc (below_alloc HB.out _) _) _⟩

/-! ### zzzz_main_TreeRank: a text by hand -/
theorem main_TreeRank (A : Option Addr) (c : Nat) (l : List S98) (s : ByteArray)
  (F : l.length ≤ maxLen ∧ ∀ x ∈ l, True ∧ (x.f1.length ≤ maxLen ∧ ∀ y ∈ x.f1, y.size ≤ maxLen) ∧ (x.f2.length ≤ maxLen ∧ ∀ y ∈ x.f2, (Lit.int .i64 y).wf = true) ∧ (Lit.int .i64 x.f3).wf = true) (_F1 : s.size ≤ maxLen)
  (w : World) (hr : Kd.C k98 w A l.length l) (hc : l.length ≤ c) :
  Calls Try.prog 5 #[.agg #[.slice A l.length c], .string s] w fun e w' => e = .returned (.bool true) ∧ Below w.heap.size w w' := by
 by_cases cs : 1048576 < s.size
 ·exact guardL1_FnExactTreeRank A c l s w hr hc cs
 obtain ⟨r, hs, hok⟩ := szTree_ev l F.1 (fun x hx => ⟨(F.2 x hx).2.1.1, (F.2 x hx).2.1.2, (F.2 x hx).2.2.1.1⟩)
 by_cases c0 : r < 0
 ·exact guard1_FnExactTreeRank A c l s r w hr hc hs c0 (by omega)
 obtain ⟨hl, hn⟩ := hok (by omega)
 have hT := toTree_ev l hl hn
 have hl2 : (cvT l).length ≤ 1048576 := by rw [cvT_len]; exact hl
 have hn2 : ∀ x ∈ cvT l, x.f1.length ≤ 1048576 ∧ x.f2.length ≤ 1048576 := fun x hx => by
  obtain ⟨y, hy, rfl⟩ := List.mem_map.1 hx
  exact hn y hy
 have hv : Ev (fun k => m_TreeRank.f k (cvT l) s) (rankM (cvT l) s) := Ev.congr (f := fun _ => some (rankM (cvT l) s)) (fun k => by rw [m_TreeRank.f, if_pos ⟨hl2, List.all_eq_true.2 (fun x hx => decide_eq_true (hn2 x hx).2)⟩]) (Ev.now _)
 exact walk_FnExactTreeRank A c l s r (cvT l) _ w hr hc hs (by omega) hT hv hv (eqTree_ev (cvT l) hl2 hn2) (by omega)
end Go.Proofs.Ytfjcfklgnlmjjaa.PB
