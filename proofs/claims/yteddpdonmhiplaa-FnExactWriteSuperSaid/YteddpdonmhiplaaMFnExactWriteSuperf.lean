-- Made by this session's programs out of the translation and of its own texts.
import Derived.Test.YteddpdonmhiplaaMFnExactWriteSupere
namespace Go.Proofs.Yteddpdonmhiplaa.PR
open Go.RowKit Go.Proofs.YteddpdonmhiplaaW.PrintWords Go.Proofs.YteddpdonmhiplaaW.PrintLast Go.Proofs.YteddpdonmhiplaaW.PrintMore
attribute [local go_sem] max2_int min2_int max_two min_two max_three min_three max_four min_four   -- for this text's walks alone
set_option linter.unusedVariables false
set_option linter.unusedSimpArgs false

/-! ### impl_Disk_powered2: a text by hand -/
def PowX (lo b : Nat) (W : World) (r1 : List Int) (r2 : List S79) (r3 : Int) (r4 : Bool) (W' : World) : Prop :=
  ∃ (A B : Option Addr) (n c m d : Nat), W'.heap[b]? = some (.cells #[.slice A n c, .slice B m d, .int .i64 r3, .bool r4] 25 (0, 0)) ∧ Kd.R (Kd.int .u8) 5 W' lo (fun _ => True) (.slice A n c) r1 ∧ Kd.S k79 79 W' lo (fun k => some k ≠ (.slice A n c : Value).ownBlock) (.slice B m d) r2 ∧ Below lo W W'
set_option maxHeartbeats 4000000 in
set_option maxRecDepth 100000 in
theorem impl_Disk_powered.calls (g : Nat) (cap : Array Value) (hcf : ∀ (args : Array Value) (W : World), (callFunc g args).run Try.prog W = .ok (.enter g args) W) (A0 : Option Addr) (c0 : Nat) (l0 : List Int) (A1 : Option Addr) (c1 : Nat) (l1 : List S79) (a2 : Int) (a3 : Bool) (w : World) (hr0 : Kd.C (Kd.int .u8) w A0 l0.length l0) (hc0 : l0.length ≤ c0) (hr1 : Kd.C k79 w A1 l1.length l1) (hc1 : l1.length ≤ c1) (h0 : l0.length ≤ 1048576) (hok : okPendS l1)
    (die : Bool) (r1 : List Int) (r2 : List S79) (r3 : Int) (r4 : Bool)
    (HC : ∀ (lo b : Nat) (W : World), w.heap.size ≤ lo → lo ≤ b → Below w.heap.size w W → PowX lo b W l0 l1 a2 a3 W →
      Calls Try.prog g (#[.pointer (some ⟨b, 0, none⟩)] ++ cap) W fun e W' => e = (if die = true then .panicked [{ v := .iface 125 (.agg #[]), recovered := false }] else .returned (.tuple #[])) ∧ PowX lo b W r1 r2 r3 r4 W') :
    Calls Try.prog 57 #[.agg #[.slice A0 l0.length c0, .slice A1 l1.length c1, .int .i64 a2, .bool a3], .func (.func g) #[] cap] w fun e w' => ∃ v0_ v1_ : Value, e = .returned (.agg #[v0_, v1_, .int .i64 r3, .bool (r4 || die)]) ∧ Kd.R (Kd.int .u8) 5 w' w.heap.size (fun _ => True) v0_ r1 ∧ Kd.S k79 79 w' w.heap.size (fun k_ => some k_ ≠ (v0_ : Value).ownBlock) v1_ r2 ∧ Below w.heap.size w w' := by
  have HR0 := Aside0.mk hr0
  have HC0 := Aside0.mk hc0
  have HR1 := Aside0.mk hr1
  have HC1 := Aside0.mk hc1
  have HCB := Aside0.mk HC
  have HCF := Aside0.mk hcf
  have HOK := Aside0.mk hok
  have HL0 := Aside0.mk h0
  clear hr0 hc0 hr1 hc1 HC hcf hok h0
  have hu25 := Try.underlying25
  have hmf : ∀ (fn : Fn) (first cap : Array Value) (w : World), (Instr.makeFunc fn first cap).run Try.prog w = .ok (.func fn first cap) w := fun _ _ _ _ => rfl
  have HB := Aside0.mk (Below.refl w.heap.size w)
  go_enter Try.func57, Try.ntmps57
  go_wp2_with fail
  refine (impl_Disk_clone.calls _ _ l0 _ _ l1 a2 a3 _ (Kd.C_alloc (Kd.C_alloc (Kd.C_alloc HR0.out _) _) _) HC0.out (Kd.C_alloc (Kd.C_alloc (Kd.C_alloc HR1.out _) _) _) HC1.out HL0.out HOK.out).mono ?_
  rintro e w1 ⟨v0, v1, rfl, hR, hS, gb⟩
  obtain ⟨DA, dc, rfl⟩ := Kd.R_slice hR
  obtain ⟨EA, ec, rfl⟩ := Kd.S_slice hS
  have K3 := Aside0.mk (blk_below (blk_alloc (blk_new2 w _ _) _) gb)
  have K4 := Aside0.mk (blk_below (blk_new3 w _ _ _) gb)
  have N_HB := Aside0.mk (below_step (below_alloc (below_alloc (below_alloc HB.out _) _) _) gb)
  clear HB
  have HB := N_HB
  clear N_HB
  simp only [World.size_alloc] at hR hS gb
  have hsz := gb.size
  have k4 := blk_lt K4.out
  have k3 := blk_lt K3.out
  clear gb
  go_wp2_with fail
  have W0 := below_alloc HB.out (.cells #[.slice DA l0.length dc, .slice EA l1.length ec, .int .i64 a2, .bool a3] 25)
  have hX0 : PowX (w.heap.size + 1 + 1 + 1) w1.heap.size (w1.alloc (.cells #[.slice DA l0.length dc, .slice EA l1.length ec, .int .i64 a2, .bool a3] 25)) l0 l1 a2 a3 (w1.alloc (.cells #[.slice DA l0.length dc, .slice EA l1.length ec, .int .i64 a2, .bool a3] 25)) :=
    ⟨DA, EA, _, dc, _, ec, blk_new _ _, Kd.R_alloc hR _, Kd.S_alloc hS _, ⟨rfl, rfl, rfl, Nat.le_refl _, fun _ _ => rfl⟩⟩
  have hC := HCB.out (w.heap.size + 1 + 1 + 1) w1.heap.size _ (by omega) (by have := HB.out.size; simpa using hsz) W0 hX0
  have hcell : (w1.alloc (.cells #[.slice DA l0.length dc, .slice EA l1.length ec, .int .i64 a2, .bool a3] 25)).cell? ⟨w.heap.size + 1, 0, none⟩ = some (.func (.func g) #[] cap) := (blk_cell (blk_alloc K3.out _) 0).trans rfl
  have K4a := Aside0.mk (blk_alloc K4.out (.cells #[.slice DA l0.length dc, .slice EA l1.length ec, .int .i64 a2, .bool a3] 25))
  generalize hW : w1.alloc (.cells #[.slice DA l0.length dc, .slice EA l1.length ec, .int .i64 a2, .bool a3] 25) = W at *
  have HW := Aside0.mk hW
  have HWB := Aside0.mk W0
  clear hW hX0 W0 hR hS K3 K4 k3 k4
  have hb5 : w.heap.size + 1 + 1 + 1 ≤ w1.heap.size := by simpa using hsz
  clear hsz
  generalize w1.heap.size = b5 at *
  cases die with
  | true =>
    refine (pow1_dies b5 (w.heap.size + 1) g cap W (PowX (w.heap.size + 1 + 1 + 1) b5 W r1 r2 r3 r4) HCF.out hcell (by simpa using hC) (fun w' hx => by obtain ⟨A, B, n, c, m, d, hb, _⟩ := hx; exact ⟨_, _, _, _, hb⟩)).mono ?_
    rintro e w3 ⟨rfl, w2, ⟨A, B, n, c, m, d, hb, hR, hS, hbb⟩, rfl⟩
    have K5 := Aside0.mk (blk_put hb 3 (.bool true) rfl)
    have K4c := Aside0.mk (show (w2.setCell ⟨b5, 3, none⟩ (.bool true)).heap[w.heap.size + 1 + 1]? = _ from blk_far ((hbb.block _ (by omega)).trans K4a.out) (by show w.heap.size + 1 + 1 ≠ b5; omega) _)
    have HR5 := Aside0.mk (Kd.R_mono (Kd.R_far (p := ⟨b5, 3, none⟩) (Kd.R_types hR hb (by decide)) (fun _ hk => hk.2) (.bool true)) (ok' := fun _ => True) (fun _ _ => trivial))
    have HS5 := Aside0.mk (Kd.S_mono (Kd.S_far (p := ⟨b5, 3, none⟩) (Kd.S_types hS hb (by decide)) (fun _ hk => hk.2) (.bool true)) (ok' := fun k => some k ≠ (.slice A n c : Value).ownBlock) (fun _ hk => hk.1))
    have HB5 := Aside0.mk (show Below (w.heap.size + 1 + 1 + 1) W (w2.setCell ⟨b5, 3, none⟩ (.bool true)) from hbb.setCell hb5 _)
    clear hb hR hS hbb hcell hC
    generalize w2.setCell ⟨b5, 3, none⟩ (.bool true) = w3 at *
    obtain ⟨z0, z1, z2, z3, y0, y1, y2, y3⟩ := blk_cells4 K5.out
    obtain ⟨x0, x1, x2, x3, u0, u1, u2, u3⟩ := blk_cells4 K4c.out
    have yl := blk_lt K5.out
    have ul := blk_lt K4c.out
    go_wp2_with fail
    refine bodyPost_ret (results_cell_row rfl _ _ (w.heap.size + 1 + 1) 25 #[.slice A n c, .slice B m d, .int .i64 r3, .bool true] (0, 0) _ rfl (blk_set4 K4c.out) Try.underlying25 rfl (by kernel_rfl)) rfl ⟨.slice A n c, .slice B m d, by simp, ?_, ?_, ?_⟩
    · exact Kd.R_lower (R_farB (R_farB (R_farB (R_farB HR5.out (by omega) _ _) (by omega) _ _) (by omega) _ _) (by omega) _ _) (by omega)
    · exact Kd.S_lower (S_farB (S_farB (S_farB (S_farB HS5.out (by omega) _ _) (by omega) _ _) (by omega) _ _) (by omega) _ _) (by omega)
    · exact below_setB (below_setB (below_setB (below_setB (below_weaken HWB.out (by omega) HB5.out) (by omega) _ _) (by omega) _ _) (by omega) _ _) (by omega) _ _
  | false =>
    refine (pow1_lives b5 (w.heap.size + 1) g cap W (PowX (w.heap.size + 1 + 1 + 1) b5 W r1 r2 r3 r4) HCF.out hcell (by simpa using hC)).mono ?_
    rintro e w3 ⟨rfl, A, B, n, c, m, d, hb, hR, hS, hbb⟩
    have K5 := Aside0.mk hb
    have K4c := Aside0.mk ((hbb.block _ (by omega)).trans K4a.out)
    have HR5 := Aside0.mk hR
    have HS5 := Aside0.mk hS
    have HB5 := Aside0.mk hbb
    clear hb hR hS hbb hcell hC
    obtain ⟨z0, z1, z2, z3, y0, y1, y2, y3⟩ := blk_cells4 K5.out
    obtain ⟨x0, x1, x2, x3, u0, u1, u2, u3⟩ := blk_cells4 K4c.out
    have yl := blk_lt K5.out
    have ul := blk_lt K4c.out
    go_wp2_with fail
    refine bodyPost_ret (results_cell_row rfl _ _ (w.heap.size + 1 + 1) 25 #[.slice A n c, .slice B m d, .int .i64 r3, .bool r4] (0, 0) _ rfl (blk_set4 K4c.out) Try.underlying25 rfl (by kernel_rfl)) rfl ⟨.slice A n c, .slice B m d, by simp, ?_, ?_, ?_⟩
    · exact Kd.R_lower (R_farB (R_farB (R_farB (R_farB HR5.out (by omega) _ _) (by omega) _ _) (by omega) _ _) (by omega) _ _) (by omega)
    · exact Kd.S_lower (S_farB (S_farB (S_farB (S_farB HS5.out (by omega) _ _) (by omega) _ _) (by omega) _ _) (by omega) _ _) (by omega)
    · exact below_setB (below_setB (below_setB (below_setB (below_weaken HWB.out (by omega) HB5.out) (by omega) _ _) (by omega) _ _) (by omega) _ _) (by omega) _ _

/-! ### L_arr: a text by hand -/
theorem load_arr {P : Program} (w : World) (ad : Addr) (ty : TypeId) (cs : List Value) (n e : Nat) (hc : ∀ j v, cs[j]? = some v → w.cell? (ad.add j) = some v) (hu : P.underlying ty = some (.array n e)) (hi : (P.info? ty).map (·.size) = some cs.length) :
    (Instr.loadAt ty (.pointer (some ad))).run P w = .ok (.agg cs.toArray) w := by
  have hl := run_loadCells_list (P := P) w ad cs hc
  obtain ⟨i, hq, hs⟩ := Option.map_eq_some_iff.1 hi
  have ha : (isAgg ty).run P w = .ok true w := by unfold isAgg; rw [Sem.run_bind, run_underlying hu w]; rfl
  simp [Instr.loadAt, Instr.sureAddr, loadVar, Sem.run_bind, ha, sizeOf, typeInfo, hq, hs, hl]
theorem store_arr {P : Program} (w : World) (g : Nat) (t ty : TypeId) (old cells : Array Value) (hg : w.heap[g]? = some (.cells old t (0, 0))) (hi : (P.info? ty).map (·.size) = some cells.size) (ho : old.size = cells.size) (h1 : cells.all (·.oneCell') = true) :
    (Instr.storeAt ty (.pointer (some ⟨g, 0, none⟩)) (.agg cells)).run P w = .ok () (w.setRow g cells) := by
  simp only [Instr.storeAt, Instr.sureAddr, Sem.run_bind, Sem.run_pure, Result.andThen_ok, run_storeVar_row w g t ty old cells hg hi ho h1]
theorem C_cells {w : World} {A : Option Addr} {xs : List Int} {n : Nat} (h : Kd.C (Kd.int .u8) w A n xs) (hn : 0 < n) : ∃ ad, A = some ad ∧ ∀ j v, (xs.map (Value.int .u8))[j]? = some v → w.cell? (ad.add j) = some v := by
  obtain ⟨ad, e, hc⟩ := h.2.2 hn
  refine ⟨ad, e, fun j v hv => ?_⟩
  rw [List.getElem?_map, Option.map_eq_some_iff] at hv
  obtain ⟨x, hx, rfl⟩ := hv
  obtain ⟨c, hl, hK, hcc⟩ := hc j x hx
  have e1 : c = [.int .u8 x] := hK
  subst e1
  have := hcc 0 _ rfl
  rwa [show j * (Kd.int .u8).sz + 0 = j from Nat.mul_one _] at this
theorem arr_at {P : Program} (arr e n : Nat) (a : Option Addr) (len cap : Nat) (h : P.underlying arr = some (.array n e)) (hn : n ≤ len) (w : World) : (Instr.arrayAt arr (.slice a len cap)).run P w = .ok (.pointer a) w := by
  simp [Instr.arrayAt, run_underlying h, Nat.not_lt.2 hn]
theorem exec_load {P : Program} {o : Oper} {r : Operand → Value} {W w1 : World} (t : TypeId) (x : Operand) (ho : o.op = .load t x) {p v : Value} (hx : r x = p) (h : (Instr.loadAt t p).run P W = .ok v w1) : (execOp r o).run P W = .ok (.value v) w1 := by
  unfold execOp
  simp only [ho, hx, Sem.run_bind, Sem.run_pure, Result.andThen_ok, h]
theorem exec_store {P : Program} {o : Oper} {r : Operand → Value} {W w1 : World} (t : TypeId) (x y : Operand) (ho : o.op = .store t x y) {p v : Value} (hx : r x = p) (hy : r y = v) (h : (Instr.storeAt t p v).run P W = .ok () w1) : (execOp r o).run P W = .ok .skip w1 := by
  unfold execOp
  simp only [ho, hx, hy, Sem.run_bind, Sem.run_pure, Result.andThen_ok, h]
theorem below_row {B g : Nat} {w0 w : World} (hb : Below B w0 w) (hg : B ≤ g) (cs : Array Value) : Below B w0 (w.setRow g cs) :=
  ⟨hb.os, hb.tape, hb.output, by rw [setRow_size]; exact hb.size, fun k hk => (setRow_other w g k cs (by omega)).trans (hb.block k hk)⟩
theorem R_row {e base : Nat} {w : World} {ok : Nat → Prop} {v : Value} {xs : List Int} (h : Kd.R (Kd.int .u8) e w base ok v xs) (hp : 0 < xs.length) :
    ∃ (g cap : Nat) (tail : List Value), v = .slice (some ⟨g, 0, none⟩) xs.length cap ∧ base ≤ g ∧ ok g ∧ cap ≤ maxLen ∧ w.heap[g]? = some (.cells (xs.map (Value.int .u8) ++ tail).toArray e (0, 0)) ∧ cap = xs.length + tail.length := by
  have hown := Kd.own_of_R h
  rcases hown.2 with ⟨_, h0⟩ | ⟨g, cap, cur, hv, hb, hh, hnc, hcm, hcs, htk⟩
  · omega
  · refine ⟨g, cap, cur.toList.drop xs.length, hv, hb, h.1 g (by rw [hv]; rfl), hcm, ?_, ?_⟩
    · have e1 : xs.map (Value.int .u8) = cur.toList.take xs.length := by have := htk; rw [Nat.mul_one] at this; exact this.symm
      rw [e1, List.take_append_drop]
      exact hh
    · have hl : (cur.toList.drop xs.length).length = cur.size - xs.length := by simp
      rw [hl]
      omega
theorem R_of_row {e base : Nat} {w : World} {ok : Nat → Prop} {g cap : Nat} {tail : List Value} {xs : List Int} (hh : w.heap[g]? = some (.cells (xs.map (Value.int .u8) ++ tail).toArray e (0, 0))) (hb : base ≤ g) (hok : ok g) (hm : cap ≤ maxLen) (hc : cap = xs.length + tail.length) :
    Kd.R (Kd.int .u8) e w base ok (.slice (some ⟨g, 0, none⟩) xs.length cap) xs := by
  refine Kd.R_of_own (enc := Value.int .u8) ⟨by simp [encs], .inr ⟨g, cap, _, rfl, hb, hh, by omega, hm, by simp; omega, ?_⟩⟩ (fun k hk => (show g = k by simpa [Value.ownBlock] using hk) ▸ hok)
  rw [Nat.mul_one, List.take_left' (by simp)]
  rfl
theorem C_cellB {w : World} {A : Option Addr} {n : Nat} {xs : List Bool} (h : Kd.C Kd.bool w A n xs) (i : Nat) (hi : i < n) : ∃ ad, A = some ad ∧ w.cell? (ad.add i) = some (.bool (rdOf false xs (i : Int))) := by
  obtain ⟨ad, c, e, hl, hK, hcc⟩ := Kd.C_get h false (i : Int) (by omega) (by omega)
  have e1 : c = [.bool (xs.getD (i : Int).toNat false)] := hK
  subst e1
  have := hcc 0 _ rfl
  rw [Int.toNat_natCast] at this
  refine ⟨ad, e, ?_⟩
  rwa [show i * Kd.bool.sz + 0 = i from Nat.mul_one _] at this

/-! ### impl_Disk_spend: a text by hand -/
set_option maxRecDepth 100000 in
theorem spend_dies (b : Nat) (v0 v1 : Value) (d : Bool) (w : World) (K : w.heap[b]? = some (.cells #[v0, v1, .int .i64 0, .bool d] 25 (0, 0))) :
    Calls Try.prog 107 #[.pointer (some ⟨b, 0, none⟩)] w fun e w' => e = .panicked [{ v := .iface 125 (.agg #[]), recovered := false }] ∧ w' = w := by
  have hu25 := Try.underlying25
  obtain ⟨z0, z1, z2, z3, y0, y1, y2, y3⟩ := blk_cells4 K
  have yl := blk_lt K
  clear K
  have hpn : ∀ (t : TypeId) (v : Value) (W : World), (Instr.panic (.iface t v)).run Try.prog W = .halt (.panic (.iface t v)) W := fun _ _ _ => rfl
  go_enter Try.func107, Try.ntmps107
  go_wp2_with fail
  exact ⟨rfl, rfl, rfl⟩
set_option maxRecDepth 100000 in
theorem spend_ok (b : Nat) (v0 v1 : Value) (f : Int) (d : Bool) (w : World) (hf : f ≠ 0) (h1 : -1 ≤ f) (h2 : f ≤ 1000000) (K : w.heap[b]? = some (.cells #[v0, v1, .int .i64 f, .bool d] 25 (0, 0))) :
    Calls Try.prog 107 #[.pointer (some ⟨b, 0, none⟩)] w fun e w' => e = .returned (.tuple #[]) ∧ w' = if 0 < f then w.setCell ⟨b, 2, none⟩ (.int .i64 (f - 1)) else w := by
  have hu25 := Try.underlying25
  obtain ⟨z0, z1, z2, z3, y0, y1, y2, y3⟩ := blk_cells4 K
  have yl := blk_lt K
  clear K
  go_enter Try.func107, Try.ntmps107
  have c0 : (f == 0) = false := beq_eq_false_iff_ne.2 hf
  by_cases hp : 0 < f
  · rw [if_pos hp]
    go_wp2_with fail
    go_end0
    exact ⟨rfl, rfl⟩
  · rw [if_neg hp]
    go_wp2_with fail
    go_end0
    exact ⟨rfl, rfl⟩

/-! ### impl_Disk_sync: a text by hand -/
-- import Derived.Laws.CopyOwn
-- import Derived.Deep.RegionLaw
def syF (l0 : List Int) (l1 : List S79) : Nat → List Int
  | 0 => l0
  | i + 1 => ovr (syF l0 l1 i) (rd_T79 l1 (i : Int)).f0 (rd_T79 l1 (i : Int)).f1
theorem syF_len (l0 : List Int) (l1 : List S79) (h : ∀ x ∈ l1, 0 ≤ x.f0 ∧ x.f0 < ((l0.length / 64 : Nat) : Int) ∧ x.f1.length = 64) : ∀ i, i ≤ l1.length → (syF l0 l1 i).length = l0.length := by
  intro i
  induction i with
  | zero => intro _; rfl
  | succ i ih =>
    intro hi
    have h1 := ih (by omega)
    have hx := h _ (rdP_mem l1 i (by omega))
    unfold syF
    rw [ovr_len _ _ _ (by rw [h1, hx.2.2]; omega), h1]
def fuelD (f : Int) : Int := if 0 < f then f - 1 else f
set_option maxHeartbeats 4000000 in
set_option maxRecDepth 100000 in
theorem sync_dies (lo b : Nat) (W : World) (l0 : List Int) (l1 : List S79) (a3 : Bool) (h : PowX lo b W l0 l1 0 a3 W) :
    Calls Try.prog 58 #[.pointer (some ⟨b, 0, none⟩)] W fun e W' => e = .panicked [{ v := .iface 125 (.agg #[]), recovered := false }] ∧ PowX lo b W l0 l1 0 a3 W' := by
  obtain ⟨A, B, n, c, m, d, hb, hR, hS, hB⟩ := h
  go_enter Try.func58, Try.ntmps58
  go_wp2_with fail
  refine (spend_dies b _ _ _ _ hb).mono ?_
  rintro e w' ⟨rfl, rfl⟩
  go_wp2_with fail
  exact ⟨rfl, rfl, A, B, n, c, m, d, hb, hR, hS, hB⟩
set_option maxHeartbeats 4000000 in
set_option maxRecDepth 100000 in
theorem sync_lives (lo b : Nat) (W : World) (l0 : List Int) (l1 : List S79) (a2 : Int) (a3 : Bool) (hv : vD l0 l1 a2 = true) (hf : a2 ≠ 0) (hlo : lo ≤ b) (h : PowX lo b W l0 l1 a2 a3 W) :
    Calls Try.prog 58 #[.pointer (some ⟨b, 0, none⟩)] W fun e W' => e = .returned (.tuple #[]) ∧ PowX lo b W (syF l0 l1 l1.length) [] (fuelD a2) a3 W' := by
  have HP := Aside0.mk (vD_facts hv)
  obtain ⟨A, B, n, c, m, d, hb, hR, hS, hB⟩ := h
  have hn := (Kd.R_reads' hR).1
  have hm := (Kd.S_reads' hS).1
  subst hn hm
  obtain ⟨g, c', tail, e_, hlg, _, hcm, hg, hcc⟩ := R_row hR (by have := HP.out.2.1; omega)
  cases e_
  have HLG := Aside0.mk hlg
  have HCM := Aside0.mk hcm
  have HCC := Aside0.mk hcc
  have HG0 := Aside0.mk hg
  have HS0 := Aside0.mk hS
  have HB0 := Aside0.mk hB
  have K0 := Aside0.mk hb
  have HF := Aside0.mk hf
  have hgb : g ≠ b := blk_ne hg hb (by decide)
  clear hR hS hB hb hlg hcm hcc hg hv hf
  have hu25 := Try.underlying25
  have hu79 := Try.underlying79
  go_enter Try.func58, Try.ntmps58
  go_wp2_with fail
  refine (spend_ok b _ _ a2 a3 _ HF.out HP.out.2.2.2.2.1 HP.out.2.2.2.2.2.1 K0.out).mono ?_
  rintro e w1 ⟨rfl, hw1⟩
  have K1 := Aside0.mk (show w1.heap[b]? = some (.cells #[.slice (some ⟨g, 0, none⟩) l0.length c, .slice B l1.length d, .int .i64 (fuelD a2), .bool a3] 25 (0, 0)) by
    rw [hw1]; unfold fuelD; split
    · exact blk_put K0.out 2 _ rfl
    · exact K0.out)
  have HG1 := Aside0.mk (show w1.heap[g]? = some (.cells (l0.map (Value.int .u8) ++ tail).toArray 5 (0, 0)) by
    rw [hw1]; split
    · exact blk_far HG0.out hgb _
    · exact HG0.out)
  have HS1 := Aside0.mk (show Kd.S k79 79 w1 lo (fun k => some k ≠ (.slice (some ⟨g, 0, none⟩) l0.length c : Value).ownBlock) (.slice B l1.length d) l1 by
    rw [hw1]; split
    · exact Kd.S_mono (Kd.S_far (p := ⟨b, 2, none⟩) (Kd.S_types HS0.out K0.out (by decide)) (fun _ hk => hk.2) _) (fun _ hk => hk.1)
    · exact HS0.out)
  have HB1 := Aside0.mk (show Below lo W w1 by
    rw [hw1]; split
    · exact HB0.out.setCell hlo _
    · exact HB0.out)
  clear K0 HG0 HS0 HB0 hw1
  obtain ⟨z0, z1, z2, z3, y0, y1, y2, y3⟩ := blk_cells4 K1.out
  have yl := blk_lt K1.out
  go_wp2_with fail
  go_loopg [11] l1.length (fun kq v11 w' => ∃ (i : Nat), v11 = .int .i64 i ∧ Aside0 (i ≤ l1.length ∧ kq = l1.length - i) ∧ Aside0 (w'.heap[g]? = some (.cells ((syF l0 l1 i).map (Value.int .u8) ++ tail).toArray 5 (0, 0))) ∧ Aside0 (w'.heap[b]? = some (.cells #[.slice (some ⟨g, 0, none⟩) l0.length c, .slice B l1.length d, .int .i64 (fuelD a2), .bool a3] 25 (0, 0))) ∧ Aside0 (Kd.S k79 79 w' lo (fun k => some k ≠ (.slice (some ⟨g, 0, none⟩) l0.length c : Value).ownBlock) (.slice B l1.length d) l1) ∧ Aside0 (Below lo W w'))
  case atStart => exact ⟨0, rfl, ⟨by omega, rfl⟩, ⟨HG1.out⟩, ⟨K1.out⟩, ⟨HS1.out⟩, ⟨HB1.out⟩⟩
  case round =>
    clear z0 z1 z2 z3 y0 y1 y2 y3 yl K1 HG1 HS1 HB1
    obtain ⟨i, rfl, HI, HG, K5, HS, HBr⟩ := hrel
    by_cases ci : (i : Int) < (l1.length : Int)
    · obtain ⟨ad, A1', c1', e_, hx0, hx1, hl, hC⟩ := at_T79 (Kd.S_reads' HS.out).2.2 (i : Int) (by omega) (by omega)
      subst e_
      rw [Int.toNat_natCast] at hx0 hx1
      have HM := Aside0.mk (HP.out.2.2.2.2.2.2 _ (rdP_mem l1 i (by omega)))
      have HCL := Aside0.mk (syF_len l0 l1 HP.out.2.2.2.2.2.2 i (by omega))
      have HCR := Aside0.mk (show syF l0 l1 (i + 1) = ovr (syF l0 l1 i) (rd_T79 l1 (i : Int)).f0 (rd_T79 l1 (i : Int)).f1 from rfl)
      have HC := Aside0.mk hC
      clear hC hl
      rw [HM.out.2.2] at hx1
      generalize rd_T79 l1 (i : Int) = p at *
      have hil : l1.length ≤ 2000 := HP.out.2.2.2.1
      obtain ⟨z0, z1, z2, z3, y0, y1, y2, y3⟩ := blk_cells4 K5.out
      have yl := blk_lt K5.out
      go_wp2_with fail
      have N_K5 := Aside0.mk (blk_alloc K5.out (.cells #[.int .i64 p.f0, .slice A1' 64 c1'] 79))
      have N_HG := Aside0.mk (blk_alloc HG.out (.cells #[.int .i64 p.f0, .slice A1' 64 c1'] 79))
      have N_HB := Aside0.mk (HBr.out.alloc (by have := blk_lt K5.out; omega) (.cells #[.int .i64 p.f0, .slice A1' 64 c1'] 79))
      have N_HC := Aside0.mk (Kd.C_alloc HC.out (.cells #[.int .i64 p.f0, .slice A1' 64 c1'] 79))
      have N_HS := Aside0.mk (Kd.S_alloc HS.out (.cells #[.int .i64 p.f0, .slice A1' 64 c1'] 79))
      have KP := Aside0.mk (blk_new wr (.cells #[.int .i64 p.f0, .slice A1' 64 c1'] 79))
      clear K5 HG HBr HC HS z0 z1 z2 z3 y0 y1 y2 y3 yl hx0 hx1
      generalize hww : wr.alloc (.cells #[.int .i64 p.f0, .slice A1' 64 c1'] 79) = ww at *
      have HWW := Aside0.mk hww
      clear hww
      obtain ⟨z0, z1, z2, z3, y0, y1, y2, y3⟩ := blk_cells4 N_K5.out
      have yl := blk_lt N_K5.out
      have pz0 : ww.cell? ⟨wr.heap.size, 0, none⟩ = some (.int .i64 p.f0) := (blk_cell KP.out 0).trans rfl
      have pz1 : ww.cell? ⟨wr.heap.size, 1, none⟩ = some (.slice A1' 64 c1') := (blk_cell KP.out 1).trans rfl
      have b0 : 0 ≤ p.f0 := HM.out.1
      have b1 : p.f0 * 64 + 64 ≤ (l0.length : Int) := by have := HM.out.2.1; omega
      have b2 : l0.length ≤ c := by have := HCC.out; omega
      have b3 : l0.length ≤ 65599 := HP.out.2.2.1
      have b4 : ¬ c = (p.f0 * 64).toNat := by omega
      have b5 : IntKind.i64.wrap (p.f0 * 64) = p.f0 * 64 := by rw [i64_w]; unfold wrap64; omega
      have b6 : p.f0 * 64 ≤ (l0.length : Int) := by omega
      have b7 : 0 ≤ p.f0 * 64 := by omega
      obtain ⟨aq, ea, hcs⟩ := C_cells N_HC.out (by rw [HM.out.2.2]; decide)
      have HCS := Aside0.mk hcs
      clear hcs
      subst ea
      have HCL2 := HCL.out
      go_region_law (refine step_copy_at rfl (.tmp 22) (.tmp 24) 22 22 rfl 5 Try.underlying22 (by kernel_rfl) g (p.f0 * 64).toNat _ _ aq _ _ (by first | rfl | (simp [Act.eval, Act.put]; done)) (by first | rfl | (simp [Act.eval, Act.put]; done)) ((syF l0 l1 i).map (Value.int .u8) ++ tail) 5 N_HG.out (p.f1.map (Value.int .u8)) ?hn ?hsrc ?hfit ?h1 ?_; (case hn => (rw [List.length_map, HM.out.2.2]; show 64 = min 64 _; omega)); (case hsrc => exact HCS.out); (case hfit => (have := HM.out.2.2; simp; omega)); (case h1 => (simp [Value.oneCell'])); intro w4 hw4; have HW4 := Aside0.mk hw4; clear hw4)
      all_goals go_wp2_with fail
      all_goals
        go_roundg (l1.length - (i + 1))
        case measure => have := HI.out; omega
        case rel =>
          rw [HW4.out, ovr_cells _ _ _ _ (by have := HM.out.2.2; omega), ← HCR.out]
          exact ⟨i + 1, by first | rfl | simp, ⟨by omega, rfl⟩, ⟨setRow_heap _ _ _ _ _ _ N_HG.out⟩, ⟨(setRow_other _ _ _ _ (Ne.symm hgb)).trans N_K5.out⟩, ⟨Kd.S_step (Kd.S_drew N_HS.out) (fun k hk _ => setRow_other _ _ _ _ (fun he => hk (by rw [he]; rfl)))⟩, ⟨below_row N_HB.out.drew HLG.out _⟩⟩
    · have hi : i = l1.length := by have := HI.out; omega
      subst hi
      obtain ⟨z0, z1, z2, z3, y0, y1, y2, y3⟩ := blk_cells4 K5.out
      have yl := blk_lt K5.out
      go_wp2_with fail
      go_end0
      have hcl := syF_len l0 l1 HP.out.2.2.2.2.2.2 l1.length (Nat.le_refl _)
      have hR := R_of_row (base := lo) (ok := fun k => k ≠ b) (cap := c) HG.out HLG.out hgb HCM.out (by rw [hcl]; exact HCC.out)
      rw [hcl] at hR
      exact ⟨rfl, some ⟨g, 0, none⟩, none, l0.length, c, 0, 0, blk_put K5.out 1 _ rfl, Kd.R_mono (Kd.R_far (p := ⟨b, 1, none⟩) hR (fun k hk => hk) _) (fun _ _ => trivial), Kd.S_nil _ _ _ _ _, HBr.out.setCell hlo _⟩

/-! ### impl_Disk_write: a text by hand -/
-- import Derived.Deep.RegionLaw
set_option maxHeartbeats 4000000 in
set_option maxRecDepth 100000 in
theorem write_dies (lo b : Nat) (W : World) (l0 : List Int) (l1 : List S79) (a3 : Bool) (s : Int) (xs : List Int) (hlo : lo ≤ b) (h : PowX lo b W l0 l1 0 a3 W) :
    Calls Try.prog 117 #[.pointer (some ⟨b, 0, none⟩), .int .i64 s, .agg (xs.map (Value.int .u8)).toArray] W fun e W' => e = .panicked [{ v := .iface 125 (.agg #[]), recovered := false }] ∧ PowX lo b W l0 l1 0 a3 W' := by
  obtain ⟨A, B, n, c, m, d, hb, hR, hS, hB⟩ := h
  have hl := blk_lt hb
  go_enter Try.func117, Try.ntmps117
  go_wp2_with fail
  refine (spend_dies b _ _ _ _ (blk_alloc hb _)).mono ?_
  rintro e w' ⟨rfl, rfl⟩
  go_wp2_with fail
  exact ⟨rfl, rfl, A, B, n, c, m, d, blk_alloc hb _, Kd.R_alloc hR _, Kd.S_alloc hS _, hB.alloc (by omega) _⟩
set_option maxHeartbeats 4000000 in
set_option maxRecDepth 100000 in
theorem write_lives (lo b : Nat) (W : World) (l0 : List Int) (l1 : List S79) (a2 : Int) (a3 : Bool) (s : Int) (xs : List Int) (hx : xs.length = 64) (hv : vD l0 l1 a2 = true) (hf : a2 ≠ 0) (hlo : lo ≤ b) (h : PowX lo b W l0 l1 a2 a3 W) :
    Calls Try.prog 117 #[.pointer (some ⟨b, 0, none⟩), .int .i64 s, .agg (xs.map (Value.int .u8)).toArray] W fun e W' => e = .returned (.tuple #[]) ∧ PowX lo b W l0 (l1 ++ [⟨s, xs⟩]) (fuelD a2) a3 W' := by
  have HP := Aside0.mk (vD_facts hv)
  have HX := Aside0.mk hx
  obtain ⟨A, B, n, c, m, d, hb, hR, hS, hB⟩ := h
  have hn := (Kd.R_reads' hR).1
  have hm := (Kd.S_reads' hS).1
  subst hn hm
  have HR0 := Aside0.mk (Kd.R_bound hR)
  have HS0 := Aside0.mk (Kd.S_bound hS)
  have HB0 := Aside0.mk hB
  have K0 := Aside0.mk hb
  have HF := Aside0.mk hf
  clear hR hS hB hb hv hf hx
  have hu25 := Try.underlying25
  have hu79 := Try.underlying79
  go_enter Try.func117, Try.ntmps117
  go_wp2_with fail
  refine (spend_ok b _ _ a2 a3 _ HF.out HP.out.2.2.2.2.1 HP.out.2.2.2.2.2.1 (blk_alloc K0.out _)).mono ?_
  rintro e w1 ⟨rfl, hw1⟩
  have KB := Aside0.mk (show w1.heap[W.heap.size]? = some (.cells (xs.map (Value.int .u8)).toArray 84 (0, 0)) by
    have hl := blk_lt K0.out
    rw [hw1]; split
    · exact blk_far (blk_new _ _) (show W.heap.size ≠ b by omega) _
    · exact blk_new _ _)
  have K1 := Aside0.mk (show w1.heap[b]? = some (.cells #[.slice A l0.length c, .slice B l1.length d, .int .i64 (fuelD a2), .bool a3] 25 (0, 0)) by
    rw [hw1]; unfold fuelD; split
    · exact blk_put (blk_alloc K0.out _) 2 _ rfl
    · exact blk_alloc K0.out _)
  have HR1 := Aside0.mk (show Kd.R (Kd.int .u8) 5 w1 lo (fun _ => True) (.slice A l0.length c) l0 by
    have hR := Kd.R_alloc HR0.out (.cells (xs.map (Value.int .u8)).toArray 84)
    rw [hw1]; split
    · exact Kd.R_mono (Kd.R_far (p := ⟨b, 2, none⟩) (Kd.R_types hR (blk_alloc K0.out _) (by decide)) (fun _ hk => hk.2) _) (fun _ _ => trivial)
    · exact Kd.R_mono hR (fun _ _ => trivial))
  have HS1 := Aside0.mk (show Kd.S k79 79 w1 lo (fun k => some k ≠ (.slice A l0.length c : Value).ownBlock) (.slice B l1.length d) l1 by
    have hS := Kd.S_alloc HS0.out (.cells (xs.map (Value.int .u8)).toArray 84)
    rw [hw1]; split
    · exact Kd.S_mono (Kd.S_far (p := ⟨b, 2, none⟩) (Kd.S_types hS (blk_alloc K0.out _) (by decide)) (fun _ hk => hk.2) _) (fun _ hk => hk.1.1)
    · exact Kd.S_mono hS (fun _ hk => hk.1))
  have HB1 := Aside0.mk (show Below lo W w1 by
    have hl := blk_lt K0.out
    rw [hw1]; split
    · exact (HB0.out.alloc (by omega) _).setCell hlo _
    · exact HB0.out.alloc (by omega) _)
  clear K0 HR0 HS0 HB0 hw1
  obtain ⟨x0, x1, x2, x3, u0, u1, u2, u3⟩ := blk_cells4 K1.out
  have ul := blk_lt K1.out
  have pl := blk_lt KB.out
  have hbB : lo ≤ w1.heap.size := by omega
  have hm5 : l1.length ≤ 2000 := HP.out.2.2.2.1
  have hC := Aside0.mk (show Kd.C (Kd.int .u8) w1 (some ⟨W.heap.size, 0, none⟩) xs.length xs from (Kd.R_reads' (R_of_row (e := 84) (base := 0) (ok := fun _ => True) (cap := xs.length) (tail := []) (by rw [List.append_nil]; exact KB.out) (Nat.zero_le _) trivial (by rw [HX.out]; decide) (by simp))).2.2)
  generalize W.heap.size = bp at *
  go_wp2_with fail
  go_region_law (first
    | (refine Kd.R_append_rows_step (Kd.int .u8) (w0 := w1.drew) (W := w1.drew) w1.drew.heap.size (by rfl) (.const (.slice none 0 0)) (.tmp 14) 22 5 (.int .u8 0) 1 rfl Try.underlying22 info5 rfl (by decide) (by omega) (.slice none 0 0) [] xs _ _ _ (fun _ => True) (fun _ => False) rfl (by rw [HX.out]; rfl) (Kd.R_nil _ _ _ _ _) (Kd.C_drew hC.out) (fun _ _ h => h) (fun _ h => h.elim) (fun _ _ => trivial) (Below.refl _ _) (Nat.le_refl _) (by have := HX.out; simp; omega) ?_
       intro v30 w3 ho hb hg hat
       rw [List.nil_append] at ho
       obtain ⟨EA, ec, ev30⟩ := Kd.R_slice ho
       subst ev30
       have HE := Aside0.mk ho
       have HB3 := Aside0.mk hb
       clear ho hb hg hat
       have K3d := Aside0.mk (blk_below (blk_drew K1.out) HB3.out)
       clear x0 x1 x2 x3 u0 u1 u2 u3 ul pl
       obtain ⟨x0, x1, x2, x3, u0, u1, u2, u3⟩ := blk_cells4 K3d.out
       have ul := blk_lt K3d.out)
    | (have hle : lo ≤ w1.drew.heap.size := hbB
       have HR3 := Aside0.mk (Kd.R_below (Kd.R_drew HR1.out) HB3.out)
       have HS3 := Aside0.mk (Kd.S_below (Kd.S_drew (Kd.S_bound HS1.out)) HB3.out)
       have HBB := Aside0.mk (below_then (below_drew HB1.out) hle HB3.out)
       have hE0 := Kd.R_base HE.out
       have hS0 := Kd.S_lt HS1.out
       have hD0 := Kd.R_lt HR1.out
       have dE := Aside0.mk hE0
       have dD := Aside0.mk hD0
       have dS := Aside0.mk hS0
       clear hE0 hD0 hS0
       refine Kd.S_append_step k79 (w0 := W) (W := w3) lo (by rfl) (.tmp 12) (.tmp 17) 23 79 (.agg #[(.int .i64 0), (.slice none 0 0)]) 32 rfl Try.underlying23 info79 rfl (by decide) (by omega) (.slice B l1.length d) l1 ⟨s, xs⟩ [.int .i64 s, .slice EA xs.length ec] (fun k_ => some k_ ≠ (.slice A l0.length c : Value).ownBlock) (fun k_ => some k_ = (.slice EA xs.length ec : Value).ownBlock) rfl rfl ?aP ?aK ?aF ?aO ?aB ?aS ?aL ?_
       case aP => exact k79_mkM _ _ _ (⟨s, xs⟩ : S79) (Kd.R_tight rfl (Kd.R_lower HE.out hle))
       case aK => exact fun k hk => ⟨fun he => by have h1 := dE.out k hk.symm; have h2 := dD.out k he.symm; exact absurd h2 (Nat.not_lt.2 h1), fun he => by have h1 := dE.out k hk.symm; have h2 := dS.out k he.symm; exact absurd h2 (Nat.not_lt.2 h1)⟩
       case aF => exact fun k hk => Kd.fresh' (Kd.R_lt HR3.out) k hk
       case aO => exact Kd.S_mono HS3.out (fun k hk => ⟨hk.1, fun he => by have h1 := dE.out k he.symm; exact absurd hk.2.2.1 (Nat.not_lt.2 h1)⟩)
       case aB => exact HBB.out
       case aS => exact Nat.le_trans hle HB3.out.size
       case aL => omega
       intro v33 w5 ho hb hg hat
       have HS5 := Aside0.mk ho
       have HB5 := Aside0.mk hb
       have HR5 := Aside0.mk (Kd.R_over' HR3.out (Kd.S_typed HS3.out) (by decide) hg)
       have K3e := Aside0.mk (blk_grown K3d.out hg (Kd.S_ne HS3.out K3d.out (by decide)))
       clear ho hb hg hat
       obtain ⟨GA, gc, ev33⟩ := Kd.S_slice HS5.out
       generalize hn5 : (l1 ++ [(⟨s, xs⟩ : S79)]).length = n5 at ev33
       subst ev33
       clear x0 x1 x2 x3 u0 u1 u2 u3 ul
       obtain ⟨x0, x1, x2, x3, u0, u1, u2, u3⟩ := blk_cells4 K3e.out
       have ul := blk_lt K3e.out))
  all_goals
    go_wp2_with fail
    go_end0
    refine ⟨rfl, A, GA, _, c, _, gc, blk_put K3e.out 1 _ rfl, ?_, ?_, HB5.out.setCell hlo _⟩
    · exact Kd.R_mono (Kd.R_far (p := ⟨b, 1, none⟩) (Kd.R_types HR5.out K3e.out (by decide)) (fun _ hk => hk.2) _) (fun _ _ => trivial)
    · exact Kd.S_mono (Kd.S_far (p := ⟨b, 1, none⟩) (Kd.S_types HS5.out K3e.out (by decide)) (fun _ hk => hk.2) _) (fun _ hk => hk.1)

/-! ### L_still: a text by hand -/
-- import Derived.StillTailTactics
theorem still_val {P : Program} {ops : Array Oper} {w : World} {Q : Act → Prop} {a : Act} {o : Oper} {rest : List Oper} {v : Value} (hg : o.guard = none) (h : (execOp a.eval o).run P w = .ok (.value v) w) (hK : wpStill P ops w Q rest (a.put o.dst v)) : wpStill P ops w Q (o :: rest) a := by
  refine wpStill_step (fun K hk => ?_)
  have hw : Region.wanted o (yielded ops a.tmps) = true := by simp [Region.wanted, hg]
  rw [if_pos hw]
  unfold Oper.still
  rw [h, Oper.stillUpon_value]
  exact hk _ hK

/-! ### impl_Disk_write2: a text by hand -/
theorem powX_drew {lo b : Nat} {W : World} {l0 : List Int} {l1 : List S79} {a2 : Int} {a3 : Bool} (h : PowX lo b W l0 l1 a2 a3 W) : PowX lo b W.drew l0 l1 a2 a3 W.drew := by
  obtain ⟨A, B, n, c, m, d, hb, hR, hS, hB⟩ := h
  exact ⟨A, B, n, c, m, d, hb, Kd.R_drew hR, Kd.S_drew hS, ⟨rfl, rfl, rfl, Nat.le_refl _, fun _ _ => rfl⟩⟩
theorem powX_undrew {lo b : Nat} {W W' : World} {l0 : List Int} {l1 : List S79} {a2 : Int} {a3 : Bool} (h : PowX lo b W.drew l0 l1 a2 a3 W') : PowX lo b W l0 l1 a2 a3 W' := by
  obtain ⟨A, B, n, c, m, d, hb, hR, hS, hB⟩ := h
  exact ⟨A, B, n, c, m, d, hb, hR, hS, ⟨hB.os, hB.tape, hB.output, hB.size, hB.block⟩⟩
set_option maxHeartbeats 4000000 in
set_option maxRecDepth 100000 in
theorem clos_write (b p1 p2 : Nat) (W : World) (s : Int) (A2 : Option Addr) (c2 : Nat) (xs : List Int) (hx : xs.length = 64) (h1 : W.cell? ⟨p1, 0, none⟩ = some (.int .i64 s)) (h2 : W.cell? ⟨p2, 0, none⟩ = some (.slice A2 64 c2)) (hC : Kd.C (Kd.int .u8) W A2 64 xs) (X : World → Prop) (die : Bool)
    (HC : Calls Try.prog 117 #[.pointer (some ⟨b, 0, none⟩), .int .i64 s, .agg (xs.map (Value.int .u8)).toArray] W.drew fun e W' => e = (if die = true then .panicked [{ v := .iface 125 (.agg #[]), recovered := false }] else .returned (.tuple #[])) ∧ X W') :
    Calls Try.prog 116 #[.pointer (some ⟨b, 0, none⟩), .pointer (some ⟨p1, 0, none⟩), .pointer (some ⟨p2, 0, none⟩)] W fun e W' => e = (if die = true then .panicked [{ v := .iface 125 (.agg #[]), recovered := false }] else .returned (.tuple #[])) ∧ X W' := by
  have HX := Aside0.mk hx
  obtain ⟨ad, rfl, hcs⟩ := C_cells hC (by decide)
  have har : ∀ V, (Instr.arrayAt 84 (.slice (some ad) 64 c2)).run Try.prog V = .ok (.pointer (some ad)) V := fun V => arr_at _ 5 64 _ _ _ (by kernel_rfl) (by omega) V
  have hld : (Instr.loadAt 84 (.pointer (some ad))).run Try.prog W.drew = .ok (.agg (xs.map (Value.int .u8)).toArray) W.drew := load_arr W.drew ad _ _ 64 5 hcs (by kernel_rfl) (by rw [List.length_map, hx]; kernel_rfl)
  have HLD := Aside0.mk hld
  have HCC := Aside0.mk HC
  clear hld hcs hC hx HC
  go_enter Try.func116, Try.ntmps116
  go_wp2_with fail
  refine wp_region_still_tail 5 (by kernel_rfl) (by kernel_rfl) ?_
  simp only [List.take_succ_cons, List.take_zero, List.drop_succ_cons, List.drop_zero]
  repeat still_step
  refine still_val rfl (exec_load _ _ rfl rfl HLD.out) ?_
  refine wpStill_nil ?_
  go_wp2_with fail
  refine HCC.out.mono ?_
  cases die with
  | true =>
    rintro e w1 ⟨rfl, hX⟩
    rw [if_pos rfl]
    go_wp2_with fail
    exact ⟨rfl, rfl, hX⟩
  | false =>
    rintro e w1 ⟨rfl, hX⟩
    rw [if_neg (by decide)]
    go_wp2_with fail
    go_end0
    exact ⟨rfl, hX⟩

/-! ### impl_DiskWrite: function 82, proved by hand -/
def dWrite (l0 : List Int) (l1 : List S79) (a2 : Int) (a3 : Bool) (s : Int) (xs : List Int) : List Int × List S79 × Int × Bool :=
  if vD l0 l1 a2 = true ∧ a3 = false ∧ inD l0 s = true ∧ xs.length = 64 ∧ l1.length ≠ 2000 then (if a2 = 0 then (l0, l1, 0, true) else (l0, l1 ++ [⟨s, xs⟩], fuelD a2, a3)) else (l0, l1, a2, a3)
def m_DiskWrite.f (l0 : List Int) (l1 : List S79) (a2 : Int) (a3 : Bool) (s : Int) (xs : List Int) : Option (List Int × List S79 × Int × Bool) :=
  if l0.length ≤ 1048576 ∧ l1.length ≤ 1048576 ∧ l1.all (fun x => decide (x.f1.length ≤ 1048576)) = true then some (dWrite l0 l1 a2 a3 s xs) else none
theorem fin_disk {w w1 w2 : World} {g : Nat} {v0 v1 : Value} {r1 : List Int} {r2 : List S79} {r3 : Int} {r4 : Bool} (hB : Below w.heap.size w w1) (hg : w.heap.size ≤ g) (K : w1.heap[g]? = some (.cells #[.slice none 0 0, .slice none 0 0, .int .i64 0, .bool false] 25 (0, 0)))
    (hR : Kd.R (Kd.int .u8) 5 w2 w1.heap.size (fun _ => True) v0 r1) (hS : Kd.S k79 79 w2 w1.heap.size (fun k_ => some k_ ≠ (v0 : Value).ownBlock) v1 r2) (hb : Below w1.heap.size w1 w2) :
    w2.heap[g]? = some (.cells #[.slice none 0 0, .slice none 0 0, .int .i64 0, .bool false] 25 (0, 0)) ∧ ((((w2.setCell ⟨g, 0, none⟩ v0).setCell ⟨g, 1, none⟩ v1).setCell ⟨g, 2, none⟩ (.int .i64 r3)).setCell ⟨g, 3, none⟩ (.bool r4)).heap[g]? = some (.cells #[v0, v1, .int .i64 r3, .bool r4] 25 (0, 0)) ∧
    Kd.R (Kd.int .u8) 5 ((((w2.setCell ⟨g, 0, none⟩ v0).setCell ⟨g, 1, none⟩ v1).setCell ⟨g, 2, none⟩ (.int .i64 r3)).setCell ⟨g, 3, none⟩ (.bool r4)) w.heap.size (fun _ => True) v0 r1 ∧ Kd.S k79 79 ((((w2.setCell ⟨g, 0, none⟩ v0).setCell ⟨g, 1, none⟩ v1).setCell ⟨g, 2, none⟩ (.int .i64 r3)).setCell ⟨g, 3, none⟩ (.bool r4)) w.heap.size (fun k_ => some k_ ≠ (v0 : Value).ownBlock) v1 r2 ∧ Below w.heap.size w ((((w2.setCell ⟨g, 0, none⟩ v0).setCell ⟨g, 1, none⟩ v1).setCell ⟨g, 2, none⟩ (.int .i64 r3)).setCell ⟨g, 3, none⟩ (.bool r4)) := by
  have hl := blk_lt K
  have hs := hB.size
  refine ⟨blk_below K hb, blk_set4 (blk_below K hb), ?_, ?_, ?_⟩
  · exact Kd.R_lower (R_farB (R_farB (R_farB (R_farB hR (by omega) _ _) (by omega) _ _) (by omega) _ _) (by omega) _ _) (by omega)
  · exact Kd.S_lower (S_farB (S_farB (S_farB (S_farB hS (by omega) _ _) (by omega) _ _) (by omega) _ _) (by omega) _ _) (by omega)
  · exact below_setB (below_setB (below_setB (below_setB (below_step hB hb) (by omega) _ _) (by omega) _ _) (by omega) _ _) (by omega) _ _
set_option maxHeartbeats 4000000 in
set_option maxRecDepth 100000 in
theorem impl_DiskWrite.calls (A0 : Option Addr) (c0 : Nat) (l0 : List Int) (A1 : Option Addr) (c1 : Nat) (l1 : List S79) (a2 : Int) (a3 : Bool) (s : Int) (A2 : Option Addr) (c2 : Nat) (xs : List Int) (r1 : List Int) (r2 : List S79) (r3 : Int) (r4 : Bool) (w : World) (hr0 : Kd.C (Kd.int .u8) w A0 l0.length l0) (hc0 : l0.length ≤ c0) (hr1 : Kd.C k79 w A1 l1.length l1) (hc1 : l1.length ≤ c1) (hr2 : Kd.C (Kd.int .u8) w A2 xs.length xs) (hc2 : xs.length ≤ c2) (h : m_DiskWrite.f l0 l1 a2 a3 s xs = some (r1, r2, r3, r4)) :
    Calls Try.prog 82 #[.agg #[.slice A0 l0.length c0, .slice A1 l1.length c1, .int .i64 a2, .bool a3], .int .i64 s, .slice A2 xs.length c2] w fun e w' => ∃ v0_ v1_ : Value, e = .returned (.agg #[v0_, v1_, .int .i64 r3, .bool r4]) ∧ Kd.R (Kd.int .u8) 5 w' w.heap.size (fun _ => True) v0_ r1 ∧ Kd.S k79 79 w' w.heap.size (fun k_ => some k_ ≠ (v0_ : Value).ownBlock) v1_ r2 ∧ Below w.heap.size w w' := by
  unfold m_DiskWrite.f at h
  by_cases hL : l0.length ≤ 1048576 ∧ l1.length ≤ 1048576 ∧ l1.all (fun x => decide (x.f1.length ≤ 1048576)) = true
  case neg => rw [if_neg hL] at h; cases h
  rw [if_pos hL] at h
  have hok : okPendS l1 := ⟨hL.2.1, fun x hx => by have := List.all_eq_true.1 hL.2.2 x hx; simpa using this⟩
  obtain ⟨kv, hv⟩ := (implValid_ev l0 l1 a2 a3 hL.1 hL.2.1).rounds
  have HH := Aside0.mk (has_eq l0 l1 a2 a3 s hL.1)
  have HL := Aside0.mk hL.1
  have HOK := Aside0.mk hok
  have HV := Aside0.mk hv
  have HR0 := Aside0.mk hr0
  have HC0 := Aside0.mk hc0
  have HR1 := Aside0.mk hr1
  have HC1 := Aside0.mk hc1
  have HR2 := Aside0.mk hr2
  have HC2 := Aside0.mk hc2
  clear hr0 hc0 hr1 hc1 hr2 hc2 hv hL hok
  have ER := Aside0.mk (Option.some.inj h)
  clear h
  have hu25 := Try.underlying25
  have HB := Aside0.mk (Below.refl w.heap.size w)
  have hmf : ∀ (fn : Fn) (first cap : Array Value) (w : World), (Instr.makeFunc fn first cap).run Try.prog w = .ok (.func fn first cap) w := fun _ _ _ _ => rfl
  go_enter Try.func82, Try.ntmps82
  go_wp2_with fail
  refine (impl_ValidDisk.calls kv _ _ l0 _ _ l1 a2 a3 _ _ (Kd.C_alloc (Kd.C_alloc (Kd.C_alloc (Kd.C_alloc HR0.out _) _) _) _) HC0.out (Kd.C_alloc (Kd.C_alloc (Kd.C_alloc (Kd.C_alloc HR1.out _) _) _) _) HC1.out HV.out).mono ?_
  rintro e w1 ⟨rfl, gb⟩
  have K1 := Aside0.mk (show w1.heap[w.heap.size]? = some (.cells #[.slice A0 l0.length c0, .slice A1 l1.length c1, .int .i64 a2, .bool a3] 25 (0, 0)) from blk_below (blk_alloc (blk_alloc (blk_alloc (blk_new _ _) _) _) _) gb)
  have K2 := Aside0.mk (show w1.heap[w.heap.size + 1]? = some (.cells #[.int .i64 s] 2 (0, 0)) from blk_below (blk_alloc (blk_alloc (blk_new2 _ _ _) _) _) gb)
  have K3 := Aside0.mk (show w1.heap[w.heap.size + 1 + 1]? = some (.cells #[.slice A2 xs.length c2] 22 (0, 0)) from blk_below (blk_alloc (blk_new3 _ _ _ _) _) gb)
  have K4 := Aside0.mk (show w1.heap[w.heap.size + 1 + 1 + 1]? = some (.cells #[.slice none 0 0, .slice none 0 0, .int .i64 0, .bool false] 25 (0, 0)) from blk_below (by have h := blk_new (((w.alloc (.cells #[.slice A0 l0.length c0, .slice A1 l1.length c1, .int .i64 a2, .bool a3] 25)).alloc (.cells #[.int .i64 s] 2)).alloc (.cells #[.slice A2 xs.length c2] 22)) (.cells #[.slice none 0 0, .slice none 0 0, .int .i64 0, .bool false] 25); simpa using h) gb)
  have N_HB := Aside0.mk (below_step (below_alloc (below_alloc (below_alloc (below_alloc HB.out _) _) _) _) gb)
  clear HB gb
  have HB := N_HB
  clear N_HB
  have clone : (r1, r2, r3, r4) = (l0, l1, a2, a3) → ∀ W, Below w.heap.size w W → Calls Try.prog 56 #[.agg #[.slice A0 l0.length c0, .slice A1 l1.length c1, .int .i64 a2, .bool a3]] W fun e w' => ∃ v0_ v1_ : Value, e = .returned (.agg #[v0_, v1_, .int .i64 r3, .bool r4]) ∧ Kd.R (Kd.int .u8) 5 w' W.heap.size (fun _ => True) v0_ r1 ∧ Kd.S k79 79 w' W.heap.size (fun k_ => some k_ ≠ (v0_ : Value).ownBlock) v1_ r2 ∧ Below W.heap.size W w' := by
    intro he W hW
    simp only [Prod.mk.injEq] at he
    obtain ⟨rfl, rfl, rfl, rfl⟩ := he
    exact impl_Disk_clone.calls _ _ _ _ _ _ _ _ _ (Kd.C_below HR0.out hW) HC0.out (Kd.C_below HR1.out hW) HC1.out HL.out HOK.out
  have CL := Aside0.mk clone
  clear clone
  obtain ⟨z0, z1, z2, z3, y0, y1, y2, y3⟩ := blk_cells4 K1.out
  have yl := blk_lt K1.out
  have zs : w1.cell? ⟨w.heap.size + 1, 0, none⟩ = some (.int .i64 s) := (blk_cell K2.out 0).trans rfl
  have zx : w1.cell? ⟨w.heap.size + 1 + 1, 0, none⟩ = some (.slice A2 xs.length c2) := (blk_cell K3.out 0).trans rfl
  have zl := blk_lt K3.out
  by_cases cv : vD l0 l1 a2 = true
  case neg =>
    have cv' : vD l0 l1 a2 = false := by simpa using cv
    have CV := Aside0.mk cv
    rw [cv']
    clear cv cv'
    have er := ER.out
    unfold dWrite at er
    rw [if_neg (by exact fun h => CV.out h.1)] at er
    go_wp2_with fail
    refine (CL.out er.symm _ HB.out).mono ?_
    rintro e w2 ⟨v0, v1, rfl, hR, hS, gb⟩
    obtain ⟨A, c, ea⟩ := Kd.R_slice hR
    obtain ⟨B, d, eb⟩ := Kd.S_slice hS
    obtain ⟨f1, f2, f3, f4, f5⟩ := fin_disk (r3 := r3) (r4 := r4) HB.out (by omega) K4.out hR hS gb
    have F2 := Aside0.mk f2
    have F3 := Aside0.mk f3
    have F4 := Aside0.mk f4
    have F5 := Aside0.mk f5
    obtain ⟨x0, x1, x2, x3, u0, u1, u2, u3⟩ := blk_cells4 f1
    have ul := blk_lt f1
    clear f1 f2 f3 f4 f5 hR hS gb
    generalize r1.length = n1 at ea
    generalize r2.length = n2 at eb
    subst ea
    subst eb
    go_wp2_with fail
    exact bodyPost_ret (results_cell_row rfl _ _ (w.heap.size + 1 + 1 + 1) 25 _ (0, 0) _ rfl F2.out Try.underlying25 rfl (by kernel_rfl)) rfl ⟨_, _, rfl, F3.out, F4.out, F5.out⟩
  have CV := Aside0.mk cv
  rw [cv]
  clear cv
  cases a3 with
  | true =>
    have er := ER.out
    unfold dWrite at er
    rw [if_neg (by exact fun h => by cases h.2.1)] at er
    go_wp2_with fail
    refine (CL.out er.symm _ HB.out).mono ?_
    rintro e w2 ⟨v0, v1, rfl, hR, hS, gb⟩
    obtain ⟨A, c, ea⟩ := Kd.R_slice hR
    obtain ⟨B, d, eb⟩ := Kd.S_slice hS
    obtain ⟨f1, f2, f3, f4, f5⟩ := fin_disk (r3 := r3) (r4 := r4) HB.out (by omega) K4.out hR hS gb
    have F2 := Aside0.mk f2
    have F3 := Aside0.mk f3
    have F4 := Aside0.mk f4
    have F5 := Aside0.mk f5
    obtain ⟨x0, x1, x2, x3, u0, u1, u2, u3⟩ := blk_cells4 f1
    have ul := blk_lt f1
    clear f1 f2 f3 f4 f5 hR hS gb
    generalize r1.length = n1 at ea
    generalize r2.length = n2 at eb
    subst ea
    subst eb
    go_wp2_with fail
    exact bodyPost_ret (results_cell_row rfl _ _ (w.heap.size + 1 + 1 + 1) 25 _ (0, 0) _ rfl F2.out Try.underlying25 rfl (by kernel_rfl)) rfl ⟨_, _, rfl, F3.out, F4.out, F5.out⟩
  | false =>
  go_wp2_with fail
  refine (impl_Disk_has.calls _ _ l0 _ _ l1 a2 false s _ _ (Kd.C_below HR0.out HB.out) HC0.out (Kd.C_below HR1.out HB.out) HC1.out HH.out).mono ?_
  rintro e w2 ⟨rfl, gb⟩
  have N_K1 := Aside0.mk (blk_below K1.out gb)
  have N_K2 := Aside0.mk (blk_below K2.out gb)
  have N_K3 := Aside0.mk (blk_below K3.out gb)
  have N_K4 := Aside0.mk (blk_below K4.out gb)
  have N_HB := Aside0.mk (below_step HB.out gb)
  clear HB gb K1 K2 K3 K4 z0 z1 z2 z3 y0 y1 y2 y3 yl zs zx zl
  have HB := N_HB
  have K1 := N_K1
  have K2 := N_K2
  have K3 := N_K3
  have K4 := N_K4
  clear N_HB N_K1 N_K2 N_K3 N_K4 w1
  rename World => w1
  obtain ⟨z0, z1, z2, z3, y0, y1, y2, y3⟩ := blk_cells4 K1.out
  have yl := blk_lt K1.out
  have zs : w1.cell? ⟨w.heap.size + 1, 0, none⟩ = some (.int .i64 s) := (blk_cell K2.out 0).trans rfl
  have zx : w1.cell? ⟨w.heap.size + 1 + 1, 0, none⟩ = some (.slice A2 xs.length c2) := (blk_cell K3.out 0).trans rfl
  have zl := blk_lt K3.out
  by_cases ci : inD l0 s = true
  case neg =>
    have ci' : inD l0 s = false := by simpa using ci
    have CI := Aside0.mk ci
    rw [ci']
    clear ci ci'
    have er := ER.out
    unfold dWrite at er
    rw [if_neg (by exact fun h => CI.out h.2.2.1)] at er
    go_wp2_with fail
    refine (CL.out er.symm _ HB.out).mono ?_
    rintro e w2 ⟨v0, v1, rfl, hR, hS, gb⟩
    obtain ⟨A, c, ea⟩ := Kd.R_slice hR
    obtain ⟨B, d, eb⟩ := Kd.S_slice hS
    obtain ⟨f1, f2, f3, f4, f5⟩ := fin_disk (r3 := r3) (r4 := r4) HB.out (by omega) K4.out hR hS gb
    have F2 := Aside0.mk f2
    have F3 := Aside0.mk f3
    have F4 := Aside0.mk f4
    have F5 := Aside0.mk f5
    obtain ⟨x0, x1, x2, x3, u0, u1, u2, u3⟩ := blk_cells4 f1
    have ul := blk_lt f1
    clear f1 f2 f3 f4 f5 hR hS gb
    generalize r1.length = n1 at ea
    generalize r2.length = n2 at eb
    subst ea
    subst eb
    go_wp2_with fail
    exact bodyPost_ret (results_cell_row rfl _ _ (w.heap.size + 1 + 1 + 1) 25 _ (0, 0) _ rfl F2.out Try.underlying25 rfl (by kernel_rfl)) rfl ⟨_, _, rfl, F3.out, F4.out, F5.out⟩
  have CI := Aside0.mk ci
  rw [ci]
  clear ci
  by_cases cx : xs.length = 64
  case neg =>
    have CX := Aside0.mk cx
    have cx' : ((xs.length : Int) != 64) = true := by simpa using (by omega : ¬ (xs.length : Int) = 64)
    clear cx
    have er := ER.out
    unfold dWrite at er
    rw [if_neg (by exact fun h => CX.out h.2.2.2.1)] at er
    go_wp2_with fail
    refine (CL.out er.symm _ HB.out).mono ?_
    rintro e w2 ⟨v0, v1, rfl, hR, hS, gb⟩
    obtain ⟨A, c, ea⟩ := Kd.R_slice hR
    obtain ⟨B, d, eb⟩ := Kd.S_slice hS
    obtain ⟨f1, f2, f3, f4, f5⟩ := fin_disk (r3 := r3) (r4 := r4) HB.out (by omega) K4.out hR hS gb
    have F2 := Aside0.mk f2
    have F3 := Aside0.mk f3
    have F4 := Aside0.mk f4
    have F5 := Aside0.mk f5
    obtain ⟨x0, x1, x2, x3, u0, u1, u2, u3⟩ := blk_cells4 f1
    have ul := blk_lt f1
    clear f1 f2 f3 f4 f5 hR hS gb
    generalize r1.length = n1 at ea
    generalize r2.length = n2 at eb
    subst ea
    subst eb
    go_wp2_with fail
    exact bodyPost_ret (results_cell_row rfl _ _ (w.heap.size + 1 + 1 + 1) 25 _ (0, 0) _ rfl F2.out Try.underlying25 rfl (by kernel_rfl)) rfl ⟨_, _, rfl, F3.out, F4.out, F5.out⟩
  have CX := Aside0.mk cx
  have cx' : ((xs.length : Int) != 64) = false := by simpa using (by omega : (xs.length : Int) = 64)
  by_cases cm : l1.length = 2000
  · have CM := Aside0.mk cm
    have cm' : ((l1.length : Int) == 2000) = true := by simpa using (by omega : (l1.length : Int) = 2000)
    clear cx cm
    have er := ER.out
    unfold dWrite at er
    rw [if_neg (by exact fun h => h.2.2.2.2 CM.out)] at er
    go_wp2_with fail
    refine (CL.out er.symm _ HB.out).mono ?_
    rintro e w2 ⟨v0, v1, rfl, hR, hS, gb⟩
    obtain ⟨A, c, ea⟩ := Kd.R_slice hR
    obtain ⟨B, d, eb⟩ := Kd.S_slice hS
    obtain ⟨f1, f2, f3, f4, f5⟩ := fin_disk (r3 := r3) (r4 := r4) HB.out (by omega) K4.out hR hS gb
    have F2 := Aside0.mk f2
    have F3 := Aside0.mk f3
    have F4 := Aside0.mk f4
    have F5 := Aside0.mk f5
    obtain ⟨x0, x1, x2, x3, u0, u1, u2, u3⟩ := blk_cells4 f1
    have ul := blk_lt f1
    clear f1 f2 f3 f4 f5 hR hS gb
    generalize r1.length = n1 at ea
    generalize r2.length = n2 at eb
    subst ea
    subst eb
    go_wp2_with fail
    exact bodyPost_ret (results_cell_row rfl _ _ (w.heap.size + 1 + 1 + 1) 25 _ (0, 0) _ rfl F2.out Try.underlying25 rfl (by kernel_rfl)) rfl ⟨_, _, rfl, F3.out, F4.out, F5.out⟩
  · have CM := Aside0.mk cm
    have cm' : ((l1.length : Int) == 2000) = false := by simpa using (by omega : ¬ (l1.length : Int) = 2000)
    clear cx cm
    have er := ER.out
    unfold dWrite at er
    rw [if_pos ⟨CV.out, rfl, CI.out, CX.out, CM.out⟩] at er
    have ER2 := Aside0.mk er
    clear er
    go_wp2_with fail
    have pw : Calls Try.prog 57 #[.agg #[.slice A0 l0.length c0, .slice A1 l1.length c1, .int .i64 a2, .bool false], .func (.func 116) #[] #[.pointer (some ⟨w.heap.size + 1, 0, none⟩), .pointer (some ⟨w.heap.size + 1 + 1, 0, none⟩)]] w1 fun e w' => ∃ v0_ v1_ : Value, e = .returned (.agg #[v0_, v1_, .int .i64 r3, .bool r4]) ∧ Kd.R (Kd.int .u8) 5 w' w1.heap.size (fun _ => True) v0_ r1 ∧ Kd.S k79 79 w' w1.heap.size (fun k_ => some k_ ≠ (v0_ : Value).ownBlock) v1_ r2 ∧ Below w1.heap.size w1 w' := by
      have hcf : ∀ (args : Array Value) (W : World), (callFunc 116 args).run Try.prog W = .ok (.enter 116 args) W := fun args W => by simp [go_sem]
      have er := ER2.out
      have hC2 := Kd.C_below HR2.out HB.out
      rw [CX.out] at hC2 zx
      by_cases c0_ : a2 = 0
      · rw [if_pos c0_] at er
        simp only [Prod.mk.injEq] at er
        obtain ⟨rfl, rfl, rfl, rfl⟩ := er
        subst c0_
        refine impl_Disk_powered.calls 116 _ hcf _ _ _ _ _ _ _ _ _ (Kd.C_below HR0.out HB.out) HC0.out (Kd.C_below HR1.out HB.out) HC1.out HL.out HOK.out true _ _ 0 false (fun lo b W h1 h2 hW hX => ?_)
        exact clos_write b _ _ W s A2 c2 xs CX.out (pw_cell_below hW zs) (pw_cell_below hW zx) (Kd.C_below hC2 hW) _ true ((write_dies lo b W.drew _ _ _ s xs h2 (powX_drew hX)).mono (fun e W' hh => ⟨by rw [if_pos rfl]; exact hh.1, powX_undrew hh.2⟩))
      · rw [if_neg c0_] at er
        simp only [Prod.mk.injEq] at er
        obtain ⟨rfl, rfl, rfl, rfl⟩ := er
        refine impl_Disk_powered.calls 116 _ hcf _ _ _ _ _ _ _ _ _ (Kd.C_below HR0.out HB.out) HC0.out (Kd.C_below HR1.out HB.out) HC1.out HL.out HOK.out false _ _ (fuelD a2) false (fun lo b W h1 h2 hW hX => ?_)
        exact clos_write b _ _ W s A2 c2 xs CX.out (pw_cell_below hW zs) (pw_cell_below hW zx) (Kd.C_below hC2 hW) _ false ((write_lives lo b W.drew _ _ _ _ s xs CX.out CV.out c0_ h2 (powX_drew hX)).mono (fun e W' hh => ⟨by rw [if_neg (by decide)]; exact hh.1, powX_undrew hh.2⟩))
    refine (pw).mono ?_
    rintro e w2 ⟨v0, v1, rfl, hR, hS, gb⟩
    obtain ⟨A, c, ea⟩ := Kd.R_slice hR
    obtain ⟨B, d, eb⟩ := Kd.S_slice hS
    obtain ⟨f1, f2, f3, f4, f5⟩ := fin_disk (r3 := r3) (r4 := r4) HB.out (by omega) K4.out hR hS gb
    have F2 := Aside0.mk f2
    have F3 := Aside0.mk f3
    have F4 := Aside0.mk f4
    have F5 := Aside0.mk f5
    obtain ⟨x0, x1, x2, x3, u0, u1, u2, u3⟩ := blk_cells4 f1
    have ul := blk_lt f1
    clear f1 f2 f3 f4 f5 hR hS gb
    generalize r1.length = n1 at ea
    generalize r2.length = n2 at eb
    subst ea
    subst eb
    go_wp2_with fail
    exact bodyPost_ret (results_cell_row rfl _ _ (w.heap.size + 1 + 1 + 1) 25 _ (0, 0) _ rfl F2.out Try.underlying25 rfl (by kernel_rfl)) rfl ⟨_, _, rfl, F3.out, F4.out, F5.out⟩

/-! ### impl_DiskSync: function 18, proved by hand -/
def dSync (l0 : List Int) (l1 : List S79) (a2 : Int) (a3 : Bool) : List Int × List S79 × Int × Bool :=
  if (vD l0 l1 a2 && !a3) = true then (if a2 = 0 then (l0, l1, 0, true) else (syF l0 l1 l1.length, [], fuelD a2, a3)) else (l0, l1, a2, a3)
def m_DiskSync.f (l0 : List Int) (l1 : List S79) (a2 : Int) (a3 : Bool) : Option (List Int × List S79 × Int × Bool) :=
  if l0.length ≤ 1048576 ∧ l1.length ≤ 1048576 ∧ l1.all (fun x => decide (x.f1.length ≤ 1048576)) = true then some (dSync l0 l1 a2 a3) else none
set_option maxHeartbeats 4000000 in
set_option maxRecDepth 100000 in
theorem impl_DiskSync.calls (A0 : Option Addr) (c0 : Nat) (l0 : List Int) (A1 : Option Addr) (c1 : Nat) (l1 : List S79) (a2 : Int) (a3 : Bool) (r1 : List Int) (r2 : List S79) (r3 : Int) (r4 : Bool) (w : World) (hr0 : Kd.C (Kd.int .u8) w A0 l0.length l0) (hc0 : l0.length ≤ c0) (hr1 : Kd.C k79 w A1 l1.length l1) (hc1 : l1.length ≤ c1) (h : m_DiskSync.f l0 l1 a2 a3 = some (r1, r2, r3, r4)) :
    Calls Try.prog 18 #[.agg #[.slice A0 l0.length c0, .slice A1 l1.length c1, .int .i64 a2, .bool a3]] w fun e w' => ∃ v0_ v1_ : Value, e = .returned (.agg #[v0_, v1_, .int .i64 r3, .bool r4]) ∧ Kd.R (Kd.int .u8) 5 w' w.heap.size (fun _ => True) v0_ r1 ∧ Kd.S k79 79 w' w.heap.size (fun k_ => some k_ ≠ (v0_ : Value).ownBlock) v1_ r2 ∧ Below w.heap.size w w' := by
  unfold m_DiskSync.f at h
  by_cases hL : l0.length ≤ 1048576 ∧ l1.length ≤ 1048576 ∧ l1.all (fun x => decide (x.f1.length ≤ 1048576)) = true
  case neg => rw [if_neg hL] at h; cases h
  rw [if_pos hL] at h
  have hok : okPendS l1 := ⟨hL.2.1, fun x hx => by have := List.all_eq_true.1 hL.2.2 x hx; simpa using this⟩
  obtain ⟨kv, hv⟩ := (implValid_ev l0 l1 a2 a3 hL.1 hL.2.1).rounds
  have HL := Aside0.mk hL.1
  have HOK := Aside0.mk hok
  have HV := Aside0.mk hv
  have HR0 := Aside0.mk hr0
  have HC0 := Aside0.mk hc0
  have HR1 := Aside0.mk hr1
  have HC1 := Aside0.mk hc1
  clear hr0 hc0 hr1 hc1 hv hL hok
  have HRr := Aside0.mk (Option.some.inj h)
  clear h
  have hu25 := Try.underlying25
  have HB := Aside0.mk (Below.refl w.heap.size w)
  go_enter Try.func18, Try.ntmps18
  go_wp2_with fail
  refine (impl_ValidDisk.calls kv _ _ l0 _ _ l1 a2 a3 _ _ (Kd.C_alloc (Kd.C_alloc HR0.out _) _) HC0.out (Kd.C_alloc (Kd.C_alloc HR1.out _) _) HC1.out HV.out).mono ?_
  rintro e w1 ⟨rfl, gb⟩
  have K2 := Aside0.mk (show w1.heap[w.heap.size]? = some (.cells #[.slice A0 l0.length c0, .slice A1 l1.length c1, .int .i64 a2, .bool a3] 25 (0, 0)) from blk_below (blk_alloc (blk_new _ _) _) gb)
  have K4 := Aside0.mk (show w1.heap[w.heap.size + 1]? = some (.cells #[.slice none 0 0, .slice none 0 0, .int .i64 0, .bool false] 25 (0, 0)) from blk_two gb)
  have N_HB := Aside0.mk (below_step (below_alloc (below_alloc HB.out _) _) gb)
  clear HB gb
  have HB := N_HB
  clear N_HB
  obtain ⟨z0, z1, z2, z3, y0, y1, y2, y3⟩ := blk_cells4 K2.out
  have yl := blk_lt K2.out
  have KL := Aside0.mk (blk_lt K4.out)
  have fin : ∀ (v0 v1 : Value) (A B : Option Addr) (n c m d : Nat) (w2 : World), v0 = .slice A n c → v1 = .slice B m d → Kd.R (Kd.int .u8) 5 w2 w1.heap.size (fun _ => True) v0 r1 → Kd.S k79 79 w2 w1.heap.size (fun k_ => some k_ ≠ (v0 : Value).ownBlock) v1 r2 → Below w1.heap.size w1 w2 →
      w2.heap[w.heap.size + 1]? = some (.cells #[.slice none 0 0, .slice none 0 0, .int .i64 0, .bool false] 25 (0, 0)) ∧
      (((((w2.setCell ⟨w.heap.size + 1, 0, none⟩ v0).setCell ⟨w.heap.size + 1, 1, none⟩ v1).setCell ⟨w.heap.size + 1, 2, none⟩ (.int .i64 r3)).setCell ⟨w.heap.size + 1, 3, none⟩ (.bool r4)).heap[w.heap.size + 1]? = some (.cells #[v0, v1, .int .i64 r3, .bool r4] 25 (0, 0))) ∧
      Kd.R (Kd.int .u8) 5 ((((w2.setCell ⟨w.heap.size + 1, 0, none⟩ v0).setCell ⟨w.heap.size + 1, 1, none⟩ v1).setCell ⟨w.heap.size + 1, 2, none⟩ (.int .i64 r3)).setCell ⟨w.heap.size + 1, 3, none⟩ (.bool r4)) w.heap.size (fun _ => True) v0 r1 ∧
      Kd.S k79 79 ((((w2.setCell ⟨w.heap.size + 1, 0, none⟩ v0).setCell ⟨w.heap.size + 1, 1, none⟩ v1).setCell ⟨w.heap.size + 1, 2, none⟩ (.int .i64 r3)).setCell ⟨w.heap.size + 1, 3, none⟩ (.bool r4)) w.heap.size (fun k_ => some k_ ≠ (v0 : Value).ownBlock) v1 r2 ∧
      Below w.heap.size w ((((w2.setCell ⟨w.heap.size + 1, 0, none⟩ v0).setCell ⟨w.heap.size + 1, 1, none⟩ v1).setCell ⟨w.heap.size + 1, 2, none⟩ (.int .i64 r3)).setCell ⟨w.heap.size + 1, 3, none⟩ (.bool r4)) := by
    intro v0 v1 A B n c m d w2 _ _ hR hS hb
    have hle : w.heap.size + 1 < w1.heap.size := KL.out
    refine ⟨blk_below K4.out hb, blk_set4 (blk_below K4.out hb), ?_, ?_, ?_⟩
    · exact Kd.R_lower (R_farB (R_farB (R_farB (R_farB hR (by omega) _ _) (by omega) _ _) (by omega) _ _) (by omega) _ _) (by omega)
    · exact Kd.S_lower (S_farB (S_farB (S_farB (S_farB hS (by omega) _ _) (by omega) _ _) (by omega) _ _) (by omega) _ _) (by omega)
    · exact below_setB (below_setB (below_setB (below_setB (below_step HB.out hb) (by omega) _ _) (by omega) _ _) (by omega) _ _) (by omega) _ _
  have FIN := Aside0.mk fin
  clear fin
  have clone : (r1, r2, r3, r4) = (l0, l1, a2, a3) → Calls Try.prog 56 #[.agg #[.slice A0 l0.length c0, .slice A1 l1.length c1, .int .i64 a2, .bool a3]] w1 fun e w' => ∃ v0_ v1_ : Value, e = .returned (.agg #[v0_, v1_, .int .i64 r3, .bool r4]) ∧ Kd.R (Kd.int .u8) 5 w' w1.heap.size (fun _ => True) v0_ r1 ∧ Kd.S k79 79 w' w1.heap.size (fun k_ => some k_ ≠ (v0_ : Value).ownBlock) v1_ r2 ∧ Below w1.heap.size w1 w' := by
    intro he
    simp only [Prod.mk.injEq] at he
    obtain ⟨rfl, rfl, rfl, rfl⟩ := he
    exact impl_Disk_clone.calls _ _ _ _ _ _ _ _ _ (Kd.C_below HR0.out HB.out) HC0.out (Kd.C_below HR1.out HB.out) HC1.out HL.out HOK.out
  have CL := Aside0.mk clone
  clear clone
  by_cases cv : vD l0 l1 a2 = true
  case neg =>
    have cv' : vD l0 l1 a2 = false := by simpa using cv
    rw [cv']
    have er := HRr.out
    unfold dSync at er
    rw [cv', Bool.false_and, if_neg (by decide)] at er
    go_wp2_with fail
    refine (CL.out er.symm).mono ?_
    rintro e w2 ⟨v0, v1, rfl, hR, hS, gb⟩
    obtain ⟨A, c, ea⟩ := Kd.R_slice hR
    obtain ⟨B, d, eb⟩ := Kd.S_slice hS
    obtain ⟨f1, f2, f3, f4, f5⟩ := FIN.out v0 v1 A B _ c _ d w2 ea eb hR hS gb
    have F2 := Aside0.mk f2
    have F3 := Aside0.mk f3
    have F4 := Aside0.mk f4
    have F5 := Aside0.mk f5
    obtain ⟨x0, x1, x2, x3, u0, u1, u2, u3⟩ := blk_cells4 f1
    have ul := blk_lt f1
    clear f1 f2 f3 f4 f5 hR hS gb
    generalize r1.length = n1 at ea
    generalize r2.length = n2 at eb
    subst ea
    subst eb
    go_wp2_with fail
    exact bodyPost_ret (results_cell_row rfl _ _ (w.heap.size + 1) 25 _ (0, 0) _ rfl F2.out Try.underlying25 rfl (by kernel_rfl)) rfl ⟨_, _, rfl, F3.out, F4.out, F5.out⟩
  have CV := Aside0.mk cv
  rw [cv]
  clear cv
  cases a3 with
  | true =>
    have er := HRr.out
    unfold dSync at er
    rw [Bool.not_true, Bool.and_false, if_neg (by decide)] at er
    go_wp2_with fail
    refine (CL.out er.symm).mono ?_
    rintro e w2 ⟨v0, v1, rfl, hR, hS, gb⟩
    obtain ⟨A, c, ea⟩ := Kd.R_slice hR
    obtain ⟨B, d, eb⟩ := Kd.S_slice hS
    obtain ⟨f1, f2, f3, f4, f5⟩ := FIN.out v0 v1 A B _ c _ d w2 ea eb hR hS gb
    have F2 := Aside0.mk f2
    have F3 := Aside0.mk f3
    have F4 := Aside0.mk f4
    have F5 := Aside0.mk f5
    obtain ⟨x0, x1, x2, x3, u0, u1, u2, u3⟩ := blk_cells4 f1
    have ul := blk_lt f1
    clear f1 f2 f3 f4 f5 hR hS gb
    generalize r1.length = n1 at ea
    generalize r2.length = n2 at eb
    subst ea
    subst eb
    go_wp2_with fail
    exact bodyPost_ret (results_cell_row rfl _ _ (w.heap.size + 1) 25 _ (0, 0) _ rfl F2.out Try.underlying25 rfl (by kernel_rfl)) rfl ⟨_, _, rfl, F3.out, F4.out, F5.out⟩
  | false =>
    have er := HRr.out
    unfold dSync at er
    rw [CV.out, Bool.not_false, Bool.and_true, if_pos rfl] at er
    have ER := Aside0.mk er
    clear er
    go_wp2_with fail
    have pw : Calls Try.prog 57 #[.agg #[.slice A0 l0.length c0, .slice A1 l1.length c1, .int .i64 a2, .bool false], .func (.func 58) #[] #[]] w1 fun e w' => ∃ v0_ v1_ : Value, e = .returned (.agg #[v0_, v1_, .int .i64 r3, .bool r4]) ∧ Kd.R (Kd.int .u8) 5 w' w1.heap.size (fun _ => True) v0_ r1 ∧ Kd.S k79 79 w' w1.heap.size (fun k_ => some k_ ≠ (v0_ : Value).ownBlock) v1_ r2 ∧ Below w1.heap.size w1 w' := by
      have hcf : ∀ (args : Array Value) (W : World), (callFunc 58 args).run Try.prog W = .ok (.enter 58 args) W := fun args W => by simp [go_sem]
      have er := ER.out
      by_cases c0_ : a2 = 0
      · rw [if_pos c0_] at er
        simp only [Prod.mk.injEq] at er
        obtain ⟨rfl, rfl, rfl, rfl⟩ := er
        subst c0_
        exact impl_Disk_powered.calls 58 #[] hcf _ _ _ _ _ _ _ _ _ (Kd.C_below HR0.out HB.out) HC0.out (Kd.C_below HR1.out HB.out) HC1.out HL.out HOK.out true _ _ 0 false (fun lo b W _ _ _ hX => (sync_dies lo b W _ _ _ hX).mono (fun e W' hh => ⟨by rw [if_pos rfl]; exact hh.1, hh.2⟩))
      · rw [if_neg c0_] at er
        simp only [Prod.mk.injEq] at er
        obtain ⟨rfl, rfl, rfl, rfl⟩ := er
        exact impl_Disk_powered.calls 58 #[] hcf _ _ _ _ _ _ _ _ _ (Kd.C_below HR0.out HB.out) HC0.out (Kd.C_below HR1.out HB.out) HC1.out HL.out HOK.out false _ _ (fuelD a2) false (fun lo b W _ hlo _ hX => (sync_lives lo b W _ _ _ _ CV.out c0_ hlo hX).mono (fun e W' hh => ⟨by rw [if_neg (by decide)]; exact hh.1, hh.2⟩))
    refine pw.mono ?_
    clear pw
    rintro e w2 ⟨v0, v1, rfl, hR, hS, gb⟩
    obtain ⟨A, c, ea⟩ := Kd.R_slice hR
    obtain ⟨B, d, eb⟩ := Kd.S_slice hS
    obtain ⟨f1, f2, f3, f4, f5⟩ := FIN.out v0 v1 A B _ c _ d w2 ea eb hR hS gb
    have F2 := Aside0.mk f2
    have F3 := Aside0.mk f3
    have F4 := Aside0.mk f4
    have F5 := Aside0.mk f5
    obtain ⟨x0, x1, x2, x3, u0, u1, u2, u3⟩ := blk_cells4 f1
    have ul := blk_lt f1
    clear f1 f2 f3 f4 f5 hR hS gb
    generalize r1.length = n1 at ea
    generalize r2.length = n2 at eb
    subst ea
    subst eb
    go_wp2_with fail
    exact bodyPost_ret (results_cell_row rfl _ _ (w.heap.size + 1) 25 _ (0, 0) _ rfl F2.out Try.underlying25 rfl (by kernel_rfl)) rfl ⟨_, _, rfl, F3.out, F4.out, F5.out⟩

/-! ### impl_put: function 113 -/
def impl_put.l0 : Nat → List Int → Int → Int → Int → Int → Option (List Int)
  | 0, _, _, _, _, _ => none
  | k + 1, x0, x1, x3, x9, x10 => if x10 < x9 then (if 0 ≤ (wrap64 (8 * x10)) then (if 0 ≤ (wrap64 (x1 + x10)) then (if (wrap64 (x1 + x10)) < (x0.length : Int) then (impl_put.l0 k (x0.set ((wrap64 (x1 + x10)) : Int).toNat ((shr .i64 x3 (wrap64 (8 * x10))) % 256)) x1 x3 x9 (wrap64 (x10 + 1))) else (none)) else (none)) else (none)) else (some x0)
def impl_put.f (k : Nat) (l0 : List Int) (a1 : Int) (a2 : Int) (a3 : Int) : Option (List Int) := impl_put.l0 k l0 a1 a3 a2 0
theorem impl_put.mono_l : ∀ k, (∀ y0 y1 y2 y3 y4, LeO (impl_put.l0 k y0 y1 y2 y3 y4) (impl_put.l0 (k + 1) y0 y1 y2 y3 y4))
  | 0 => fun _ _ _ _ _ r h => by simp [impl_put.l0] at h
  | k + 1 => by
    have ih0 := impl_put.mono_l k
    · intro y0 y1 y2 y3 y4
      unfold impl_put.l0
      repeat' first
      | (with_reducible exact ih0 _ _ _ _ _)
      | (with_reducible exact LeO.refl _)
      | (with_reducible exact LeO.none _)
      | (with_reducible refine LeO.ite ?_ ?_)
      | (with_reducible refine LeO.bind ?_ (fun _ => ?_))
      | exact ih0 _ _ _ _ _
      | exact LeO.none _
      | refine LeO.ite ?_ ?_
      | refine LeO.bind ?_ (fun _ => ?_)
theorem impl_put.mono : ∀ a0 a1 a2 a3 k, LeO (impl_put.f k a0 a1 a2 a3) (impl_put.f (k + 1) a0 a1 a2 a3) := by
  intro a0 a1 a2 a3 k
  have ih0 := impl_put.mono_l k
  unfold impl_put.f
  repeat' first
      | (with_reducible exact ih0 _ _ _ _ _)
      | (with_reducible exact LeO.refl _)
      | (with_reducible exact LeO.none _)
      | (with_reducible refine LeO.ite ?_ ?_)
      | (with_reducible refine LeO.bind ?_ (fun _ => ?_))
      | exact ih0 _ _ _ _ _
      | exact LeO.none _
      | refine LeO.ite ?_ ?_
      | refine LeO.bind ?_ (fun _ => ?_)
set_option maxHeartbeats 8000000 in
set_option maxRecDepth 100000 in
theorem impl_put.calls (k : Nat) (P0_ : Nat → Prop) (u9000_ : Value) (l0 : List Int) (a1 : Int) (a2 : Int) (a3 : Int) (r : List Int) (w0 w : World) (hB : Below w0.heap.size w0 w) (ho0 : Kd.R (Kd.int .u8) 5 w w0.heap.size P0_ u9000_ l0) (h : impl_put.f k l0 a1 a2 a3 = some r) :
    Calls Try.prog 113 #[u9000_, .int .i64 a1, .int .i64 a2, .int .i64 a3] w fun e w' => e = .returned (.tuple #[]) ∧ Kd.R (Kd.int .u8) 5 w' w0.heap.size (fun k_ => (P0_ k_ ∨ w.heap.size ≤ k_)) u9000_ r ∧ Below w0.heap.size w0 w' ∧ Kept w w' (fun k_ => P0_ k_) := by
  have HO0 := Aside0.mk (show Kd.R (Kd.int .u8) 5 w w0.heap.size (fun k_ => (P0_ k_ ∨ w.heap.size ≤ k_)) u9000_ l0 from Kd.R_mono ho0 (fun k_ hk => (.inl hk)))
  have HK := Aside0.mk (Kept.refl w (fun k_ => P0_ k_))
  have HW0 := Aside0.mk hB.size
  have HB := Aside0.mk hB
  clear hB
  have H : (impl_put.l0 k l0 a1 a3 a2 0) = some r := h
  clear h
  have H' := Aside0.mk H
  clear H
  go_enter Try.func113, Try.ntmps113
  go_wp2
  go_loopg [10] k (fun kq v10 w' => ∃ (x0_1 : List Int) (x10_1 : Int), v10 = .int .i64 x10_1 ∧ Aside0 (impl_put.l0 kq x0_1 a1 a3 a2 x10_1 = some r) ∧ Aside0 (kq ≤ k) ∧ Aside0 (Kd.R (Kd.int .u8) 5 w' w0.heap.size (fun k_ => (P0_ k_ ∨ w.heap.size ≤ k_)) u9000_ x0_1) ∧ Aside0 (Kept w w' (fun k_ => P0_ k_)) ∧ Aside0 (Below w0.heap.size w0 w'))
  case atStart => exact ⟨(l0), (0), (by first | rfl | (simp; done) | (simp [*]; done)), H', ⟨Nat.le_refl _⟩, ⟨by (with_reducible repeat (first | apply Kd.R_alloc | apply Kd.R_drewN | apply Kd.R_drew)); exact HO0.out⟩, ⟨by repeat (first | (with_reducible first | exact HK.out | apply Kept.alloc | apply Kept.drewN | apply Kept.drew) | exact HK.out)⟩, ⟨by repeat (first | (with_reducible first | exact HB.out | apply below_alloc | apply pw_below_drewN | apply below_drew1) | exact HB.out)⟩⟩
  case round =>
    clear H'
    try clear c1
    try clear p2
    obtain ⟨x0_1, x10_1, rfl, HA, HK1, HO_0, HK, HB⟩ := hrel
    cases gk with
    | zero => exact absurd HA.out (by simp [impl_put.l0])
    | succ k1 =>
      have H := HA.out
      clear HA
      simp only [impl_put.l0] at H
      by_cases c5 : x10_1 < a2
      · rw [if_pos c5] at H
        have c5b0 : decide (x10_1 < a2) = true := decide_eq_true c5
        clear c5
        obtain ⟨ji6, hji6⟩ : ∃ j_ : Int, (wrap64 (8 * x10_1)) = j_ := ⟨_, rfl⟩
        replace H : (if 0 ≤ (ji6) then (if 0 ≤ (wrap64 (a1 + x10_1)) then (if (wrap64 (a1 + x10_1)) < (x0_1.length : Int) then (impl_put.l0 k1 (x0_1.set ((wrap64 (a1 + x10_1)) : Int).toNat ((shr .i64 a3 (ji6)) % 256)) a1 a3 a2 (wrap64 (x10_1 + 1))) else (none)) else (none)) else (none)) = some r := by first | (rw [hji6] at H; exact H) | (simp only [hji6] at H ⊢; exact H)
        have hji6w : (IntKind.i64.wrap (8 * x10_1)) = ji6 := (i64_w _).trans hji6
        by_cases c7 : 0 ≤ (ji6)
        · rw [if_pos c7] at H
          have c7b0 := eq_true c7
          have c7b1 : decide (0 ≤ (ji6)) = true := decide_eq_true c7
          clear c7
          obtain ⟨ji8, hji8⟩ : ∃ j_ : Int, (shr .i64 a3 (ji6)) = j_ := ⟨_, rfl⟩
          replace H : (if 0 ≤ (wrap64 (a1 + x10_1)) then (if (wrap64 (a1 + x10_1)) < (x0_1.length : Int) then (impl_put.l0 k1 (x0_1.set ((wrap64 (a1 + x10_1)) : Int).toNat ((ji8) % 256)) a1 a3 a2 (wrap64 (x10_1 + 1))) else (none)) else (none)) = some r := by first | (rw [hji8] at H; exact H) | (simp only [hji8] at H ⊢; exact H)
          have hji8_ : (a3 / 2 ^ min (ji6).toNat 64) = ji8 := hji8
          have hji8z : (ji6) ≤ 64 → (a3 / 2 ^ (ji6).toNat) = ji8 := shr_small hji8
          obtain ⟨ji9, hji9⟩ : ∃ j_ : Int, (wrap64 (a1 + x10_1)) = j_ := ⟨_, rfl⟩
          replace H : (if 0 ≤ (ji9) then (if (ji9) < (x0_1.length : Int) then (impl_put.l0 k1 (x0_1.set ((ji9) : Int).toNat ((ji8) % 256)) a1 a3 a2 (wrap64 (x10_1 + 1))) else (none)) else (none)) = some r := by first | (rw [hji9] at H; exact H) | (simp only [hji9] at H ⊢; exact H)
          have hji9w : (IntKind.i64.wrap (a1 + x10_1)) = ji9 := (i64_w _).trans hji9
          by_cases c10 : 0 ≤ (ji9)
          · rw [if_pos c10] at H
            have c10b0 : decide (0 ≤ (ji9)) = true := decide_eq_true c10
            clear c10
            by_cases c11 : (ji9) < (x0_1.length : Int)
            · rw [if_pos c11] at H
              have c11b0 : decide ((ji9) < (x0_1.length : Int)) = true := decide_eq_true c11
              clear c11
              obtain ⟨y1013, hy1013⟩ : ∃ y_ : List Int, y_ = (x0_1.set ((ji9) : Int).toNat ((ji8) % 256)) := ⟨_, rfl⟩
              replace H : (impl_put.l0 k1 y1013 a1 a3 a2 (wrap64 (x10_1 + 1))) = some r := by first | (rw [hy1013]; with_reducible exact H) | (have H2_ := (Option.bind_some _ _).symm.trans H; rw [hy1013]; with_reducible exact H2_) | (have H2_ := (Option.bind_some _ _).symm.trans H; with_reducible exact H2_) | with_reducible exact H | (rw [hy1013]; exact H) | exact H
              have Ny1013 := Aside0.mk hy1013
              clear hy1013
              have H' := Aside0.mk H
              clear H
              have p12 : 0 ≤ ((ji9) : Int) := of_decide_eq_true (by first | (with_reducible assumption) | assumption)
              have q12 : ((ji9) : Int) < ((x0_1.length : Int) : Int) := of_decide_eq_true (by first | (with_reducible assumption) | assumption)
              obtain ⟨go12, co12, eo12, gb12, gl12, cl12, HG12⟩ := Kd.R_form HO_0.out (by omega)
              (first | cases eo12 | (injection eo12 with ea_ en_ ec_; (first | subst ea_ | (injection ea_ with ea_; subst ea_)); subst ec_; clear en_))
              have GB12 := Aside0.mk gb12
              have GG12 := Aside0.mk HG12
              clear gb12 gl12 HG12
              have HMgo12 := Aside0.mk (show (P0_ go12 ∨ w.heap.size ≤ go12) from (HO_0.out.1 _ rfl))
              obtain ⟨hx12_0, hf12_0⟩ := Kd.R_celln 0 HO_0.out ((ji9) : Int) p12 q12
              replace p12 := eq_true p12
              replace q12 := eq_true q12
              have HP13 := Kd.R_putg HO_0.out ((ji9) : Int) ((ji8) % 256)
              go_wp2_with (first | ((with_reducible refine gate_store (t := 5) (p := 22) rfl ?_); refine store_event (t := 5) (p := 22) (v := ?vo_w14) (w1 := (wr.setCell ⟨go12, ((ji9) : Int).toNat, none⟩ (.int .u8 ((ji8) % 256)))) ?hg ?ho ?hn ?hr ?_; (case ho => rfl); (case hg => rfl); (case hn => rfl); (case hr => first | (go_simp; done) | (go_simp; rfl)); intro w14 hw; have hg : wr.grownBy w14 (some go12) := (by rw [hw]; exact HP13.2); have hp_ : Kd.R (Kd.int .u8) 5 w14 w0.heap.size (fun k_ => (P0_ k_ ∨ w.heap.size ≤ k_)) (.slice (some ⟨go12, 0, none⟩) x0_1.length co12) y1013 := (by rw [hw, Ny1013.out]; exact HP13.1); clear HP13; have n0_ := Aside0.mk (hp_); have n1_ := Aside0.mk ((by rw [hw]; exact below_set (HB.out) GB12.out : Below w0.heap.size w0 w14)); have n2_ := Aside0.mk (Kept.of_grown (S := (fun k_ => P0_ k_)) hg (by repeat (first | (with_reducible first | exact HK.out | apply Kept.alloc | apply Kept.drewN | apply Kept.drew) | exact HK.out)) (fun k_ e_ => (HO_0.out.1 k_ e_))); clear HO_0; clear HB; clear HK; have HO_0 := n0_; have HB := n1_; have HK := n2_; clear n0_ n1_ n2_; clear hg hw hp_))
              go_roundg k1
              case measure => have := HK1.out; omega
              case rel => exact ⟨(y1013), (wrap64 (x10_1 + 1)), (by first | rfl | (simp; done) | (simp [*]; done)), H', ⟨by have := HK1.out; omega⟩, ⟨by (with_reducible repeat (first | apply Kd.R_alloc | apply Kd.R_drewN | apply Kd.R_drew)); exact HO_0.out⟩, ⟨by repeat (first | (with_reducible first | exact HK.out | apply Kept.alloc | apply Kept.drewN | apply Kept.drew) | exact HK.out)⟩, ⟨by repeat (first | (with_reducible first | exact HB.out | apply below_alloc | apply pw_below_drewN | apply below_drew1) | exact HB.out)⟩⟩
            · rw [if_neg c11] at H
              exact absurd H (by simp)
          · rw [if_neg c10] at H
            exact absurd H (by simp)
        · rw [if_neg c7] at H
          exact absurd H (by simp)
      · rw [if_neg c5] at H
        have c5b0 : decide (x10_1 < a2) = false := decide_eq_false c5
        clear c5
        obtain rfl := Option.some.inj H
        go_wp2
        first | go_end0 | ((try simp only [Exit.inBlock, Exit.then]); refine bodyPost_ret (results_none rfl _ _ _) rfl ?_)
        exact ⟨by first | rfl | (simp [errW_none, errW_some] <;> rfl) | (simp [*, errW_none, errW_some] <;> rfl), by (with_reducible repeat (first | apply Kd.R_alloc | apply Kd.R_drewN | apply Kd.R_drew)); exact HO_0.out, by repeat (first | (with_reducible first | exact HB.out | apply below_alloc | apply pw_below_drewN | apply below_drew1) | exact HB.out), by repeat (first | (with_reducible first | exact HK.out | apply Kept.alloc | apply Kept.drewN | apply Kept.drew) | exact HK.out)⟩

/-! ### L_put: a text by hand -/
set_option maxHeartbeats 2000000 in
set_option maxRecDepth 100000 in
/-- put over an array's block. -/
theorem impl_put_arr (k : Nat) (t : TypeId) (g : Nat) (c : Nat) (xs : List Int) (a1 a2 a3 : Int) (r : List Int) (w : World) (hg : w.heap[g]? = some (.cells (xs.map (Value.int .u8)).toArray t (0, 0))) (h : impl_put.f k xs a1 a2 a3 = some r) :
    Calls Try.prog 113 #[.slice (some ⟨g, 0, none⟩) xs.length c, .int .i64 a1, .int .i64 a2, .int .i64 a3] w fun e w' => e = .returned (.tuple #[]) ∧ r.length = xs.length ∧ w' = w.setRow g (r.map (Value.int .u8)).toArray := by
  have H : (impl_put.l0 k xs a1 a3 a2 0) = some r := h
  clear h
  have H' := Aside0.mk H
  clear H
  have HG := Aside0.mk hg
  clear hg
  go_enter Try.func113, Try.ntmps113
  go_wp2
  go_loopg [10] k (fun kq v10 w' => ∃ (ys : List Int) (i : Int), v10 = .int .i64 i ∧ Aside0 (impl_put.l0 kq ys a1 a3 a2 i = some r) ∧ Aside0 (kq ≤ k) ∧ ys.length = xs.length ∧ Aside0 (w' = w.setRow g (ys.map (Value.int .u8)).toArray))
  case atStart => exact ⟨xs, 0, rfl, H', ⟨Nat.le_refl _⟩, rfl, ⟨(setRow_self w g _ t (0, 0) HG.out).symm⟩⟩
  case round =>
    clear H'
    obtain ⟨ys, i, rfl, HA, HK1, hl, HW⟩ := hrel
    cases gk with
    | zero => exact absurd HA.out (by simp [impl_put.l0])
    | succ k1 =>
      have H := HA.out
      clear HA
      simp only [impl_put.l0] at H
      by_cases c5 : i < a2
      · rw [if_pos c5] at H
        by_cases c7 : 0 ≤ wrap64 (8 * i)
        · rw [if_pos c7] at H
          by_cases c10 : 0 ≤ wrap64 (a1 + i)
          · rw [if_pos c10] at H
            by_cases c11 : wrap64 (a1 + i) < (ys.length : Int)
            · rw [if_pos c11] at H
              have H' := Aside0.mk H
              clear H
              obtain ⟨j, hj⟩ : ∃ j : Nat, wrap64 (a1 + i) = (j : Int) := ⟨_, (Int.toNat_of_nonneg c10).symm⟩
              have hjl : j < ys.length := by omega
              have hjw : (IntKind.i64.wrap (a1 + i)) = (j : Int) := (i64_w _).trans hj
              have hblk : wr.heap[g]? = some (.cells (ys.map (Value.int .u8)).toArray t (0, 0)) := by rw [HW.out]; exact setRow_heap w g _ _ t (0, 0) HG.out
              have hx : wr.cell? ⟨g, j, none⟩ = some (.int .u8 (ys[j])) := (blk_cell hblk j).trans (by simp [hjl])
              have HB := Aside0.mk hblk
              clear hblk
              rw [hl] at hjl
              have p12 : (0 : Int) ≤ (j : Int) := by omega
              have q12 : (j : Int) < (xs.length : Int) := by omega
              have hfz : wr.frozen? ⟨g, j, none⟩ = false := blk_frozen HB.out j
              replace p12 := eq_true p12
              replace q12 := eq_true q12
              replace c5 := decide_eq_true c5
              obtain ⟨m, hm⟩ : ∃ m : Int, wrap64 (8 * i) = m := ⟨_, rfl⟩
              rw [hm] at c7
              have hmw : (IntKind.i64.wrap (8 * i)) = m := (i64_w _).trans hm
              replace c7 := eq_true c7
              go_wp2_with fail
              go_roundg k1
              case measure => have := HK1.out; omega
              case rel =>
                refine ⟨_, _, rfl, H', ⟨by have := HK1.out; omega⟩, by rw [List.length_set]; exact hl, ⟨?_⟩⟩
                have hs : shr IntKind.i64 a3 m = a3 / 2 ^ min m.toNat 64 := rfl
                rw [setCell_eq_setRow wr g j _ t (0, 0) _ HB.out, HW.out, setRow_setRow, hm, hj, Int.toNat_natCast, List.map_set, hs]
                simp
            · rw [if_neg c11] at H
              exact absurd H (by simp)
          · rw [if_neg c10] at H
            exact absurd H (by simp)
        · rw [if_neg c7] at H
          exact absurd H (by simp)
      · rw [if_neg c5] at H
        have c5b0 : decide (i < a2) = false := decide_eq_false c5
        clear c5
        obtain rfl := Option.some.inj H
        go_wp2
        first | go_end0 | ((try simp only [Exit.inBlock, Exit.then]); refine bodyPost_ret (results_none rfl _ _ _) rfl ?_)
        first | exact ⟨rfl, hl, HW.out⟩ | exact ⟨rfl, HW.out⟩

/-! ### impl_Crc32: function 123, proved by hand -/
theorem wraps_u32 (n : Int) (h₀ : 0 ≤ n) (h₁ : n < 2 ^ 32) : IntKind.u32.wrap n = n := by rw [IntKind.wrap_u32]; omega
theorem and1 (x : Int) (h0 : 0 ≤ x) (h1 : x < 4294967296) : bits .and .u32 x 1 = x % 2 := bits_mask .u32 32 (by decide) wraps_u32 1 (by decide) x h0 h1
theorem andP0 : bits .and .u32 3988292384 0 = 0 := by decide +kernel
theorem andP1 : bits .and .u32 3988292384 4294967295 = 3988292384 := by decide +kernel
theorem xor0 (x : Int) (h0 : 0 ≤ x) (h1 : x < 4294967296) : bits .xor .u32 x 0 = x := by
  obtain ⟨n, rfl⟩ := Int.eq_ofNat_of_zero_le h0
  have e : (BitVec.ofInt IntKind.u32.bits (n : Int) ^^^ BitVec.ofInt IntKind.u32.bits 0) = BitVec.ofInt IntKind.u32.bits (n : Int) := by
    rw [show BitVec.ofInt IntKind.u32.bits 0 = 0#_ from rfl, BitVec.xor_zero]
  simp only [bits]
  rw [e, BitVec.ofInt_natCast, BitVec.toNat_ofNat, IntKind.wrap_u32]
  show ((n % 2 ^ 32 : Nat) : Int) % 4294967296 = n
  omega
theorem xor_comm (x y : Int) : bits .xor .u32 x y = bits .xor .u32 y x := by
  unfold bits; simp only [BitVec.xor_comm]
def crcSt (x : Int) : Int := if x % 2 = 1 then Go.bits .xor .u32 (x / 2) 3988292384 else x / 2
theorem crcStep (x : Int) (h0 : 0 ≤ x) (h1 : x < 4294967296) : bits .xor .u32 (x / 2) (bits .and .u32 3988292384 (-bits .and .u32 x 1 % 4294967296)) = crcSt x := by
  rw [and1 x h0 h1]
  unfold crcSt
  by_cases h : x % 2 = 1
  · rw [if_pos h, h, show (-1 : Int) % 4294967296 = 4294967295 from rfl, andP1]
  · have h' : x % 2 = 0 := by omega
    rw [if_neg h, h', show (-0 : Int) % 4294967296 = 0 from rfl, andP0, xor0 _ (by omega) (by omega)]
theorem crcSt_bd (x : Int) (h0 : 0 ≤ x) (h1 : x < 4294967296) : 0 ≤ crcSt x ∧ crcSt x < 4294967296 := by
  unfold crcSt
  split
  · have := bits_lo_u32 .xor (x / 2) 3988292384
    have := bits_hi_u32 .xor (x / 2) 3988292384
    omega
  · omega
def crcN : Nat → Int → Int
  | 0, x => x
  | n + 1, x => crcSt (crcN n x)
theorem crcN_bd (n : Nat) (x : Int) (h0 : 0 ≤ x) (h1 : x < 4294967296) : 0 ≤ crcN n x ∧ crcN n x < 4294967296 := by
  induction n with
  | zero => exact ⟨h0, h1⟩
  | succ n ih => exact crcSt_bd _ ih.1 ih.2
def crcT (l : List Int) (i : Nat) : Int := (l.take i).foldl (fun c b => crcN 8 (Go.bits .xor .u32 c (b % 4294967296))) 4294967295
theorem crcT_succ (l : List Int) (i : Nat) (h : i < l.length) : crcT l (i + 1) = crcN 8 (Go.bits .xor .u32 (crcT l i) (l.getD i 0 % 4294967296)) := by
  unfold crcT
  rw [List.take_succ_eq_append_getElem h, List.foldl_append]
  simp [List.getD_eq_getElem?_getD, h]
theorem crcIn_bd (c b : Int) (n : Nat) : 0 ≤ crcN n (Go.bits .xor .u32 c b) ∧ crcN n (Go.bits .xor .u32 c b) < 4294967296 := 
  crcN_bd n _ (bits_lo_u32 ..) (by have := bits_hi_u32 .xor c b; omega)
theorem crcSpec (l : List Int) (r : Int) (hL : l.length ≤ 9223372036854775807) : ∀ k,
    (∀ x (i : Nat), spec_Crc32.l0 k l x i = some r → i ≤ l.length → x = crcT l i → r = bits .xor .u32 (crcT l l.length) 4294967295) ∧
    (∀ x (i j : Nat), spec_Crc32.l1 k l x i j = some r → i < l.length → j ≤ 8 → x = crcN j (bits .xor .u32 (crcT l i) (l.getD i 0 % 4294967296)) → r = bits .xor .u32 (crcT l l.length) 4294967295)
  | 0 => ⟨fun x i h => by simp [spec_Crc32.l0] at h, fun x i j h => by simp [spec_Crc32.l1] at h⟩
  | k + 1 => by
    obtain ⟨ih0, ih1⟩ := crcSpec l r hL k
    constructor
    · intro x i h hi hx
      simp only [spec_Crc32.l0] at h
      by_cases c : (i : Int) < (l.length : Int)
      · rw [if_pos c, if_pos (by omega)] at h
        refine ih1 _ i 0 h (by omega) (by omega) ?_
        rw [hx]
        simp [crcN, rd]
      · rw [if_neg c] at h
        obtain rfl : i = l.length := by omega
        rw [← Option.some.inj h, hx]
    · intro x i j h hi hj hx
      simp only [spec_Crc32.l1] at h
      have hb := crcIn_bd (crcT l i) (l.getD i 0 % 4294967296) j
      rw [← hx] at hb
      by_cases c : (j : Int) < 8
      · rw [if_pos c] at h
        have ew : wrap64 ((j : Int) + 1) = ((j + 1 : Nat) : Int) := by unfold wrap64; omega
        rw [ew, Int.tmod_eq_emod_of_nonneg hb.1, Int.tdiv_eq_ediv_of_nonneg hb.1, Int.emod_eq_of_lt (a := x / 2) (by omega) (by omega)] at h
        by_cases c2 : x % 2 = 1
        · rw [if_pos c2] at h
          exact ih1 _ i (j + 1) h hi (by omega) (by rw [crcN, ← hx]; simp [crcSt, c2])
        · rw [if_neg c2] at h
          exact ih1 _ i (j + 1) h hi (by omega) (by rw [crcN, ← hx]; simp [crcSt, c2])
      · rw [if_neg c] at h
        have ew : wrap64 ((i : Int) + 1) = ((i + 1 : Nat) : Int) := by unfold wrap64; omega
        rw [ew] at h
        obtain rfl : j = 8 := by omega
        exact ih0 _ (i + 1) h (by omega) (by rw [crcT_succ l i hi, hx])
set_option maxHeartbeats 1000000 in
set_option maxRecDepth 100000 in
/-- Crc32 leaves the world as it is. -/
theorem impl_Crc32.still (k : Nat) (A0 : Option Addr) (c0 : Nat) (l0 : List Int) (r : Int) (w : World) (hr0 : Kd.C (Kd.int .u8) w A0 l0.length l0) (hc0 : l0.length ≤ c0) (h : spec_Crc32.f k l0 = some r) :
    Calls Try.prog 123 #[.slice A0 l0.length c0] w fun e w' => e = .returned (.int .u32 r) ∧ w' = w := by
  have HR0 := Aside0.mk hr0
  have HL : l0.length ≤ 9223372036854775807 := hr0.2.1
  have HF : Aside0 (bits .xor .u32 4294967295 (crcT l0 l0.length) = r) := ⟨by
    rw [(crcSpec l0 r HL k).1 _ 0 h (by omega) rfl, xor_comm]⟩
  have hs : IntKind.u32.signed = false := rfl
  have hm : IntKind.u32.max = 4294967295 := rfl
  clear hr0 hc0 h
  go_enter Try.func123, Try.ntmps123
  go_wp2
  go_loopg [3, 8] l0.length (fun kq v3 v8 w' => ∃ (c : Int) (i : Nat), v3 = .int .u32 c ∧ v8 = .int .i64 i ∧ kq + i = l0.length ∧ Aside0 (c = crcT l0 i) ∧ w' = w)
  case atStart => exact ⟨_, 0, rfl, rfl, rfl, ⟨rfl⟩, rfl⟩
  case round =>
    obtain ⟨c, i, rfl, rfl, hi, HC, rfl⟩ := hrel
    by_cases hlt : i < l0.length
    · have hlt' : (i : Int) < (l0.length : Int) := by omega
      have h0 : (0 : Int) ≤ (i : Int) := by omega
      obtain ⟨ad, e1, hx⟩ := Kd.at_int HR0.out i (by omega) (by omega)
      cases e1
      rw [Int.toNat_natCast] at hx
      replace h0 := eq_true h0
      replace hlt' := eq_true hlt'
      obtain ⟨g0, rfl⟩ : ∃ g0, gk = g0 + 1 := ⟨gk - 1, by omega⟩
      go_wp2
      go_loopg [3, 16] 8 (fun kq v3 v16 w' => ∃ (x : Int) (j : Nat), v3 = .int .u32 x ∧ v16 = .int .i64 j ∧ kq + j = 8 ∧ Aside0 (x = crcN j (Go.bits .xor .u32 c (rd l0 i % 4294967296))) ∧ w' = wr)
      case atStart => exact ⟨_, 0, rfl, rfl, rfl, ⟨rfl⟩, rfl⟩
      case round =>
        obtain ⟨x, j, rfl, rfl, hj, HX, rfl⟩ := hrel
        have hb := crcIn_bd c (rd l0 i % 4294967296) j
        rw [← HX.out] at hb
        by_cases hj8 : j < 8
        · have e := crcStep x hb.1 hb.2
          have E := Aside0.mk e
          clear e
          obtain ⟨hb0, hb1⟩ := hb
          go_wp2
          go_roundg (gk - 1)
          case measure => omega
          case rel => exact ⟨_, j + 1, rfl, by simp, by omega, ⟨by rw [E.out, crcN, ← HX.out]⟩, rfl⟩
        · clear hb
          go_wp2
          go_roundg g0
          case measure => omega
          case rel => exact ⟨_, i + 1, rfl, by simp, by omega, ⟨by rw [HX.out, crcT_succ l0 i hlt, ← HC.out, show j = 8 by omega]; rfl⟩, rfl⟩
    · go_wp2
      go_ret
      exact ⟨by rw [← HF.out, HC.out, show i = l0.length by omega]; rfl, rfl⟩
theorem impl_Crc32.calls (k : Nat) (A0 : Option Addr) (c0 : Nat) (l0 : List Int) (r : Int) (w : World) (hr0 : Kd.C (Kd.int .u8) w A0 l0.length l0) (hc0 : l0.length ≤ c0) (h : spec_Crc32.f k l0 = some r) :
    Calls Try.prog 123 #[.slice A0 l0.length c0] w fun e w' => e = .returned (.int .u32 r) ∧ Drawn0 w w' := by
  refine (impl_Crc32.still k A0 c0 l0 r w hr0 hc0 h).mono ?_
  rintro e w9 ⟨h1, rfl⟩
  exact ⟨h1, Drawn0.refl _⟩

/-! ### L_seal: a text by hand -/
-- import Derived.StillTailTactics
set_option maxHeartbeats 2000000 in
set_option maxRecDepth 100000 in
/-- seal over an array's block. -/
theorem impl_seal_arr (k kp : Nat) (t : TypeId) (g : Nat) (xs : List Int) (cr : Int) (r : List Int) (w : World) (hn : xs.length = 64) (hg : w.heap[g]? = some (.cells (xs.map (Value.int .u8)).toArray t (0, 0))) (h1 : spec_Crc32.f k (xs.take 60) = some cr) (hc0 : 0 ≤ cr) (hc1 : cr < 4294967296) (h2 : impl_put.f kp xs 60 4 cr = some r) :
    Calls Try.prog 114 #[.pointer (some ⟨g, 0, none⟩)] w fun e w' => e = .returned (.tuple #[]) ∧ r.length = xs.length ∧ w' = w.drew.setRow g (r.map (Value.int .u8)).toArray := by
  have HG := Aside0.mk hg
  have H1 := Aside0.mk h1
  have H2 := Aside0.mk h2
  have hlen : (xs.take 60).length = 60 := by rw [List.length_take]; omega
  have hC : Kd.C (Kd.int .u8) w.drew (some ⟨g, 0, none⟩) (xs.take 60).length (xs.take 60) := C_of_cells (by omega) _ (fun j x hj => by
    have hj' : j < 60 := by have := (List.getElem?_eq_some_iff.1 hj).1; omega
    rw [List.getElem?_take_of_lt hj'] at hj
    rw [add_plain]
    exact (blk_cell (blk_drew HG.out) j).trans (by simp [hj]))
  have hcall := impl_Crc32.still k (some ⟨g, 0, none⟩) 64 (xs.take 60) cr w.drew hC (by omega) H1.out
  rw [hlen] at hcall
  have hcw : IntKind.i64.wrap cr = cr := by rw [i64_w]; unfold wrap64; omega
  clear hg h1 h2
  go_enter Try.func114, Try.ntmps114
  go_still_tail 8, (by kernel_rfl)
  still_call hcall
  still_step
  refine wpStill_nil ?_
  change wpList _ _ _ _ _ w.drew
  have HG' := Aside0.mk (blk_drew HG.out)
  clear HG hcall hC
  generalize w.drew = W at *
  go_wp2_with fail
  have hput := impl_put_arr kp t g 64 xs 60 4 cr r W HG'.out H2.out
  rw [hn] at hput
  refine hput.mono ?_
  rintro e w9 ⟨rfl, hl, rfl⟩
  go_wp2_with fail
  first | go_end0 | ((try simp only [Exit.inBlock, Exit.then]); refine bodyPost_ret (results_none rfl _ _ _) rfl ?_)
  exact ⟨rfl, by rw [hn]; exact hl, rfl⟩

/-! ### L_code: a text by hand -/
-- import Derived.StillTailTactics
-- import Derived.Laws.CopyOwn
-- import Derived.Lib.BufferWrite
theorem q1_row : ∀ (x : List Int), 6 ≤ x.length → ((x.map (Value.int .u8)).toArray.toList.take 4 ++ Go.Lib.byteCells (⟨#[81, 49]⟩ : ByteArray).data.toList ++ (x.map (Value.int .u8)).toArray.toList.drop (4 + (⟨#[81, 49]⟩ : ByteArray).size)) = ((x.set 4 81).set 5 49).map (Value.int .u8)
  | a :: b :: c :: d :: e :: f :: t, _ => rfl
  | [], h => by simp at h
  | [_], h => by simp at h
  | [_, _], h => by simp at h
  | [_, _, _], h => by simp at h
  | [_, _, _, _], h => by simp at h
  | [_, _, _, _, _], h => by simp at h
def cHead (a0 a1 a2 : Int) : Option (List Int) := (impl_put.f 5 (List.replicate 64 0) 0 4 a0).bind fun x => impl_put.f 5 (((x.set 4 81).set 5 49).set 6 (a1 % 256)) 8 4 a2
def cSuper (k : Nat) (a0 a1 a2 : Int) : Option (List Int) := (cHead a0 a1 a2).bind fun y => (spec_Crc32.f k (y.take 60)).bind fun cr => impl_put.f 5 y 60 4 cr
set_option maxHeartbeats 2000000 in
set_option maxRecDepth 100000 in
/-- code: the sector of a super. -/
theorem impl_code_arr (k : Nat) (a0 a1 a2 : Int) (r : List Int) (w : World) (h : cSuper k a0 a1 a2 = some r) (hcr : ∀ (l : List Int) (c : Int), l.length ≤ 60 → spec_Crc32.f k l = some c → 0 ≤ c ∧ c < 4294967296) :
    Calls Try.prog 81 #[.agg #[.int .i64 a0, .int .i64 a1, .int .i64 a2]] w fun e w' => e = .returned (.agg (r.map (Value.int .u8)).toArray) ∧ r.length = 64 ∧ Below w.heap.size w w' := by
  unfold cSuper cHead at h
  obtain ⟨y, h0, h⟩ := Option.bind_eq_some_iff.1 h
  obtain ⟨x, h1, h2⟩ := Option.bind_eq_some_iff.1 h0
  obtain ⟨cr, h3, h4⟩ := Option.bind_eq_some_iff.1 h
  have A1_ := Aside0.mk h1
  have A2_ := Aside0.mk h2
  have A3_ := Aside0.mk h3
  have A4_ := Aside0.mk h4
  have AC_ := Aside0.mk (hcr _ _ (by rw [List.length_take]; omega) h3)
  clear h h0 h1 h2 h3 h4 hcr
  have HB := Aside0.mk (Below.refl w.heap.size w)
  go_enter Try.func81, Try.ntmps81
  go_wp2_with fail
  obtain ⟨zs, hzs⟩ : ∃ zs : List Int, zs = List.replicate 64 0 := ⟨_, rfl⟩
  have hzl : zs.length = 64 := by rw [hzs]; rfl
  change Code.wp _ _ _ _ (((w.alloc (.cells #[.int .i64 a0, .int .i64 a1, .int .i64 a2] 40)).alloc (.cells ((List.replicate 64 (0 : Int)).map (Value.int .u8)).toArray 84)).alloc (.cells ((List.replicate 64 (0 : Int)).map (Value.int .u8)).toArray 84))
  rw [← hzs] at A1_ ⊢
  have K0 := Aside0.mk (blk_below (blk_below (blk_new w (.cells #[.int .i64 a0, .int .i64 a1, .int .i64 a2] 40)) (below_alloc (Below.refl _ _) (.cells (zs.map (Value.int .u8)).toArray 84))) (below_alloc (Below.refl _ _) (.cells (zs.map (Value.int .u8)).toArray 84)))
  have K1 := Aside0.mk (blk_below (blk_new (w.alloc (.cells #[.int .i64 a0, .int .i64 a1, .int .i64 a2] 40)) (.cells (zs.map (Value.int .u8)).toArray 84)) (below_alloc (Below.refl _ _) (.cells (zs.map (Value.int .u8)).toArray 84)))
  have K2 := Aside0.mk (blk_new ((w.alloc (.cells #[.int .i64 a0, .int .i64 a1, .int .i64 a2] 40)).alloc (.cells (zs.map (Value.int .u8)).toArray 84)) (.cells (zs.map (Value.int .u8)).toArray 84))
  simp only [World.size_alloc] at K1 K2
  replace HB := Aside0.mk (below_alloc (below_alloc (below_alloc HB.out (.cells #[.int .i64 a0, .int .i64 a1, .int .i64 a2] 40)) (.cells (zs.map (Value.int .u8)).toArray 84)) (.cells (zs.map (Value.int .u8)).toArray 84))
  generalize (((w.alloc (.cells #[.int .i64 a0, .int .i64 a1, .int .i64 a2] 40)).alloc (.cells (zs.map (Value.int .u8)).toArray 84)).alloc (.cells (zs.map (Value.int .u8)).toArray 84)) = W at *
  go_still_tail 3, (by kernel_rfl)
  change wpStill _ _ W.drew (fun a' => wpList _ _ _ _ a' W.drew) _ _
  replace K0 := Aside0.mk (blk_drew K0.out)
  replace K1 := Aside0.mk (blk_drew K1.out)
  replace K2 := Aside0.mk (blk_drew K2.out)
  replace HB := Aside0.mk (below_drew1 HB.out)
  generalize W.drew = W2 at *
  have hc0 : W2.cell? ⟨w.heap.size, 0, none⟩ = some (.int .i64 a0) := (blk_cell K0.out 0).trans rfl
  still_step
  refine wpStill_nil ?_
  go_wp2_with fail
  have hput := impl_put_arr 5 84 (w.heap.size + 1 + 1) 64 zs 0 4 a0 x W2 K2.out A1_.out
  rw [hzl] at hput
  refine hput.mono ?_
  rintro e w9 ⟨rfl, hl, rfl⟩
  replace K0 := Aside0.mk ((setRow_other W2 (w.heap.size + 1 + 1) _ (x.map (Value.int .u8)).toArray (by omega)).trans K0.out)
  replace K1 := Aside0.mk ((setRow_other W2 (w.heap.size + 1 + 1) _ (x.map (Value.int .u8)).toArray (by omega)).trans K1.out)
  replace K2 := Aside0.mk (setRow_heap W2 (w.heap.size + 1 + 1) _ (x.map (Value.int .u8)).toArray 84 (0, 0) K2.out)
  replace HB := Aside0.mk (below_setRow (g := w.heap.size + 1 + 1) HB.out (by omega) (x.map (Value.int .u8)).toArray)
  clear hc0 hput
  generalize W2.setRow (w.heap.size + 1 + 1) (x.map (Value.int .u8)).toArray = W3 at *
  go_wp2_with fail
  have hcp := Go.Lib.run_copy_row_string (P := Try.prog) W3 22 9 3 5 (w.heap.size + 1 + 1) 4 60 60 ⟨#[81, 49]⟩ _ 84 Try.underlying22 rfl K2.out (by decide) (by simp [hl]; decide)
  rw [q1_row x (by omega)] at hcp
  rw [hcp]
  simp only [Result.andThen_ok]
  replace K0 := Aside0.mk ((setRow_other W3 (w.heap.size + 1 + 1) _ (((x.set 4 81).set 5 49).map (Value.int .u8)).toArray (by omega)).trans K0.out)
  replace K1 := Aside0.mk ((setRow_other W3 (w.heap.size + 1 + 1) _ (((x.set 4 81).set 5 49).map (Value.int .u8)).toArray (by omega)).trans K1.out)
  replace K2 := Aside0.mk (setRow_heap W3 (w.heap.size + 1 + 1) _ (((x.set 4 81).set 5 49).map (Value.int .u8)).toArray 84 (0, 0) K2.out)
  replace HB := Aside0.mk (below_setRow (g := w.heap.size + 1 + 1) HB.out (by omega) (((x.set 4 81).set 5 49).map (Value.int .u8)).toArray)
  clear hcp
  generalize W3.setRow (w.heap.size + 1 + 1) (((x.set 4 81).set 5 49).map (Value.int .u8)).toArray = W4 at *
  obtain ⟨x5, hx5⟩ : ∃ x5, x5 = (x.set 4 81).set 5 49 := ⟨_, rfl⟩
  rw [← hx5] at K2 A2_
  have hx5l : x5.length = 64 := by rw [hx5, List.length_set, List.length_set]; exact hl
  have hc1 : W4.cell? ⟨w.heap.size, 1, none⟩ = some (.int .i64 a1) := (blk_cell K0.out 1).trans rfl
  have hc6 : W4.cell? ⟨w.heap.size + 1 + 1, 6, none⟩ = some (.int .u8 (x5[6]'(by omega))) := (blk_cell K2.out 6).trans (by simp [hx5l])
  have hf6 : W4.frozen? ⟨w.heap.size + 1 + 1, 6, none⟩ = false := blk_frozen K2.out 6
  go_wp2_with fail
  have e6 := setCell_eq_setRow W4 (w.heap.size + 1 + 1) 6 _ 84 (0, 0) (.int .u8 (a1 % 256)) K2.out
  rw [show ((x5.map (Value.int .u8)).toArray.setIfInBounds 6 (.int .u8 (a1 % 256))) = ((x5.set 6 (a1 % 256)).map (Value.int .u8)).toArray from by rw [List.setIfInBounds_toArray, List.map_set]] at e6
  rw [e6]
  have hx6l : (x5.set 6 (a1 % 256)).length = 64 := by rw [List.length_set]; exact hx5l
  generalize x5.set 6 (a1 % 256) = x6 at *
  replace K0 := Aside0.mk ((setRow_other W4 (w.heap.size + 1 + 1) _ (x6.map (Value.int .u8)).toArray (by omega)).trans K0.out)
  replace K1 := Aside0.mk ((setRow_other W4 (w.heap.size + 1 + 1) _ (x6.map (Value.int .u8)).toArray (by omega)).trans K1.out)
  replace K2 := Aside0.mk (setRow_heap W4 (w.heap.size + 1 + 1) _ (x6.map (Value.int .u8)).toArray 84 (0, 0) K2.out)
  replace HB := Aside0.mk (below_setRow (g := w.heap.size + 1 + 1) HB.out (by omega) (x6.map (Value.int .u8)).toArray)
  clear hc1 hc6 hf6 e6 hx5 hx5l
  generalize W4.setRow (w.heap.size + 1 + 1) (x6.map (Value.int .u8)).toArray = W5 at *
  go_still_tail 3, (by kernel_rfl)
  change wpStill _ _ W5.drew (fun a' => wpList _ _ _ _ a' W5.drew) _ _
  replace K0 := Aside0.mk (blk_drew K0.out)
  replace K1 := Aside0.mk (blk_drew K1.out)
  replace K2 := Aside0.mk (blk_drew K2.out)
  replace HB := Aside0.mk (below_drew1 HB.out)
  generalize W5.drew = W6 at *
  have hc2 : W6.cell? ⟨w.heap.size, 2, none⟩ = some (.int .i64 a2) := (blk_cell K0.out 2).trans rfl
  still_step
  refine wpStill_nil ?_
  go_wp2_with fail
  have hput := impl_put_arr 5 84 (w.heap.size + 1 + 1) 64 x6 8 4 a2 y W6 K2.out A2_.out
  rw [hx6l] at hput
  refine hput.mono ?_
  rintro e w9 ⟨rfl, hyl, rfl⟩
  replace K0 := Aside0.mk ((setRow_other W6 (w.heap.size + 1 + 1) _ (y.map (Value.int .u8)).toArray (by omega)).trans K0.out)
  replace K1 := Aside0.mk ((setRow_other W6 (w.heap.size + 1 + 1) _ (y.map (Value.int .u8)).toArray (by omega)).trans K1.out)
  replace K2 := Aside0.mk (setRow_heap W6 (w.heap.size + 1 + 1) _ (y.map (Value.int .u8)).toArray 84 (0, 0) K2.out)
  replace HB := Aside0.mk (below_setRow (g := w.heap.size + 1 + 1) HB.out (by omega) (y.map (Value.int .u8)).toArray)
  clear hc2 hput
  generalize W6.setRow (w.heap.size + 1 + 1) (y.map (Value.int .u8)).toArray = W7 at *
  go_wp2_with fail
  refine (impl_seal_arr k 5 84 (w.heap.size + 1 + 1) y cr r W7 hyl K2.out A3_.out AC_.out.1 AC_.out.2 A4_.out).mono ?_
  rintro e w9 ⟨rfl, hrl, rfl⟩
  replace K0 := Aside0.mk (blk_drew K0.out)
  replace K1 := Aside0.mk (blk_drew K1.out)
  replace K2 := Aside0.mk (blk_drew K2.out)
  replace HB := Aside0.mk (below_drew1 HB.out)
  generalize W7.drew = W8 at *
  replace K1 := Aside0.mk ((setRow_other W8 (w.heap.size + 1 + 1) _ (r.map (Value.int .u8)).toArray (by omega)).trans K1.out)
  replace K2 := Aside0.mk (setRow_heap W8 (w.heap.size + 1 + 1) _ (r.map (Value.int .u8)).toArray 84 (0, 0) K2.out)
  replace HB := Aside0.mk (below_setRow (g := w.heap.size + 1 + 1) HB.out (by omega) (r.map (Value.int .u8)).toArray)
  generalize W8.setRow (w.heap.size + 1 + 1) (r.map (Value.int .u8)).toArray = W9 at *
  have hrl' : r.length = 64 := hrl.trans hyl
  have hld := Aside0.mk (load_arr (P := Try.prog) W9 ⟨w.heap.size + 1 + 1, 0, none⟩ 84 (r.map (Value.int .u8)) 64 5 (fun j v hj => by rw [add_plain]; exact (blk_cell K2.out j).trans (by simpa using hj)) (by kernel_rfl) (by rw [List.length_map, hrl']; kernel_rfl))
  have hst := Aside0.mk (store_arr (P := Try.prog) W9 (w.heap.size + 1) 84 84 _ (r.map (Value.int .u8)).toArray K1.out (by rw [List.size_toArray, List.length_map, hrl']; kernel_rfl) (by simp [hzl, hrl']) (by simp [Value.oneCell']))
  go_wp2_with (first | ((with_reducible refine gate_dst (N := 19) rfl ?_); refine Kd.event_run rfl (exec_load _ _ rfl rfl hld.out) ?_) | ((with_reducible refine gate_store (t := 84) (p := 2) rfl ?_); refine store_event rfl rfl rfl (exec_store _ _ _ rfl rfl rfl hst.out) ?_; intro w2 hw2; have hw2 := Aside0.mk hw2))
  obtain rfl := hw2.out
  refine bodyPost_ret (results_cell_row rfl _ _ (w.heap.size + 1) 84 (r.map (Value.int .u8)).toArray (0, 0) _ rfl (setRow_heap _ _ _ _ _ _ K1.out) Try.underlying84 rfl (by rw [List.size_toArray, List.length_map, hrl']; kernel_rfl)) rfl ⟨rfl, hrl', below_setRow (g := w.heap.size + 1) HB.out (by omega) _⟩

/-! ### L_superEq: a text by hand -/
def put4 (x : Int) : List Int := [x % 256, x / 256 % 256, x / 256 / 256 % 256, x / 256 / 256 / 256 % 256]
theorem put_step (k : Nat) (x : Int) (l : List Int) (i : Int) (h0 : 0 ≤ i) (hi : i < 4) (hl : l.length < 100) (hx : 0 ≤ x) (hx2 : x < 4294967296) :
    spec_l2Put.l0 (k + 1) x 4 l i = spec_l2Put.l0 k (x / 256) 4 (l ++ [x % 256]) (i + 1) := by
  rw [spec_l2Put.l0, if_pos hi, if_pos (by omega), Int.tdiv_eq_ediv_of_nonneg hx, Int.tmod_eq_emod_of_nonneg hx]
  rw [show wrap64 (x / 256) = x / 256 from by unfold wrap64; omega, show wrap64 (i + 1) = i + 1 from by unfold wrap64; omega, show x % 256 % 256 = x % 256 from by omega]
theorem spec_put4 (x : Int) (hx : 0 ≤ x) (hx2 : x < 4294967296) : ∀ (k : Nat) (r : List Int), spec_l2Put.f k x 4 = some r → r = put4 x := by
  intro k r h
  unfold spec_l2Put.f at h
  have hx' : 0 ≤ x / 256 ∧ x / 256 < 4294967296 := by omega
  have hx'' : 0 ≤ x / 256 / 256 ∧ x / 256 / 256 < 4294967296 := by omega
  have hx3 : 0 ≤ x / 256 / 256 / 256 ∧ x / 256 / 256 / 256 < 4294967296 := by omega
  match k, h with
  | 0, h => cases h
  | 1, h => rw [put_step _ _ _ _ (by decide) (by decide) (by simp) hx hx2] at h; cases h
  | 2, h => rw [put_step _ _ _ _ (by decide) (by decide) (by simp) hx hx2, put_step _ _ _ _ (by decide) (by decide) (by simp) hx'.1 hx'.2] at h; cases h
  | 3, h => rw [put_step _ _ _ _ (by decide) (by decide) (by simp) hx hx2, put_step _ _ _ _ (by decide) (by decide) (by simp) hx'.1 hx'.2, put_step _ _ _ _ (by decide) (by decide) (by simp) hx''.1 hx''.2] at h; cases h
  | 4, h => rw [put_step _ _ _ _ (by decide) (by decide) (by simp) hx hx2, put_step _ _ _ _ (by decide) (by decide) (by simp) hx'.1 hx'.2, put_step _ _ _ _ (by decide) (by decide) (by simp) hx''.1 hx''.2, put_step _ _ _ _ (by decide) (by decide) (by simp) hx3.1 hx3.2] at h; cases h
  | k + 5, h =>
    rw [put_step _ _ _ _ (by decide) (by decide) (by simp) hx hx2, put_step _ _ _ _ (by decide) (by decide) (by simp) hx'.1 hx'.2, put_step _ _ _ _ (by decide) (by decide) (by simp) hx''.1 hx''.2, put_step _ _ _ _ (by decide) (by decide) (by simp) hx3.1 hx3.2, spec_l2Put.l0, if_neg (by decide)] at h
    exact (Option.some.inj h).symm
theorem iput_step (k : Nat) (xs : List Int) (p x : Int) (i n : Nat) (hi : i < 4) (hp : 0 ≤ p) (hpl : p + i < xs.length) (hxl : xs.length < 1000) (hn : (p + i).toNat = n) :
    impl_put.l0 (k + 1) xs p x 4 i = impl_put.l0 k (xs.set n (x / 2 ^ (8 * i) % 256)) p x 4 ((i + 1 : Nat) : Int) := by
  have e1 : wrap64 (8 * (i : Int)) = ((8 * i : Nat) : Int) := by unfold wrap64; omega
  have e2 : wrap64 (p + (i : Int)) = p + i := by unfold wrap64; omega
  have e3 : wrap64 ((i : Int) + 1) = ((i + 1 : Nat) : Int) := by unfold wrap64; omega
  have e4 : shr IntKind.i64 x ((8 * i : Nat) : Int) = x / 2 ^ (8 * i) := by
    show x / 2 ^ min (((8 * i : Nat) : Int)).toNat 64 = _
    rw [Int.toNat_natCast, Nat.min_eq_left (by omega)]
  rw [impl_put.l0, if_pos (by omega), e1, if_pos (by omega), e2, if_pos (by omega), if_pos (by omega), e3, e4, hn]
theorem impl_put4 (xs : List Int) (p x : Int) (n : Nat) (hp : 0 ≤ p) (hn : p.toNat = n) (hpl : p + 4 ≤ xs.length) (hxl : xs.length < 1000) (hx : 0 ≤ x) (hx2 : x < 4294967296) :
    impl_put.f 5 xs p 4 x = some ((((xs.set n (x % 256)).set (n + 1) (x / 256 % 256)).set (n + 2) (x / 256 / 256 % 256)).set (n + 3) (x / 256 / 256 / 256 % 256)) := by
  unfold impl_put.f
  rw [show (0 : Int) = ((0 : Nat) : Int) from rfl, iput_step 4 xs p x 0 n (by decide) hp (by omega) hxl (by omega), iput_step 3 _ p x 1 (n + 1) (by decide) hp (by simp; omega) (by simpa using hxl) (by omega), iput_step 2 _ p x 2 (n + 2) (by decide) hp (by simp; omega) (by simpa using hxl) (by omega), iput_step 1 _ p x 3 (n + 3) (by decide) hp (by simp; omega) (by simpa using hxl) (by omega), impl_put.l0, if_neg (by decide)]
  rw [show x / 2 ^ (8 * 0) = x from by simp, show x / 2 ^ (8 * 1) = x / 256 from by rw [show (2 : Int) ^ (8 * 1) = 256 from rfl], show x / 2 ^ (8 * 2) = x / 256 / 256 from by rw [show (2 : Int) ^ (8 * 2) = 65536 from rfl]; omega, show x / 2 ^ (8 * 3) = x / 256 / 256 / 256 from by rw [show (2 : Int) ^ (8 * 3) = 16777216 from rfl]; omega]
theorem cat_from (ls : List (List Int)) (r : List Int) : ∀ (k : Nat) (acc : List Int) (i : Nat), spec_l2Cat.l0 k ls acc i = some r → i ≤ ls.length → ls.length < 1000 → r = acc ++ (ls.drop i).flatten
  | 0, _, _, h, _, _ => by cases h
  | k + 1, acc, i, h, hi, hl => by
    rw [spec_l2Cat.l0] at h
    by_cases c : (i : Int) < (ls.length : Int)
    · rw [if_pos c, if_pos (by omega)] at h
      by_cases c2 : acc.length + (rd_L2 ls i).length < 140737488355328
      · rw [if_pos c2, show wrap64 ((i : Int) + 1) = ((i + 1 : Nat) : Int) from by unfold wrap64; omega] at h
        rw [cat_from ls r k _ _ h (by omega) hl, List.drop_eq_getElem_cons (show i < ls.length by omega), List.flatten_cons, List.append_assoc]
        congr 2
        simp [rd_L2, show i < ls.length by omega]
      · rw [if_neg c2] at h; cases h
    · rw [if_neg c] at h
      rw [← Option.some.inj h, List.drop_of_length_le (by omega)]
      simp
theorem cat_eq (ls : List (List Int)) (r : List Int) (k : Nat) (h : spec_l2Cat.f k ls = some r) (hl : ls.length < 1000) : r = ls.flatten := by
  have := cat_from ls r k [] 0 h (by omega) hl
  simpa using this
theorem zeros_from (r : List Int) : ∀ (k : Nat) (acc : List Int) (i : Nat), spec_l1Zeros.l0 k 48 acc i = some r → i ≤ 48 → acc = List.replicate i 0 → r = List.replicate 48 0
  | 0, _, _, h, _, _ => by cases h
  | k + 1, acc, i, h, hi, ha => by
    rw [spec_l1Zeros.l0] at h
    by_cases c : (i : Int) < 48
    · rw [if_pos c, if_pos (by rw [ha, List.length_replicate]; omega), show wrap64 ((i : Int) + 1) = ((i + 1 : Nat) : Int) from by unfold wrap64; omega] at h
      exact zeros_from r k _ _ h (by omega) (by rw [ha]; exact List.replicate_succ'.symm)
    · rw [if_neg c] at h
      rw [← Option.some.inj h, ha, show i = 48 by omega]
theorem zeros_eq (r : List Int) (k : Nat) (h : spec_l1Zeros.f k 48 = some r) : r = List.replicate 48 0 := zeros_from r k [] 0 h (by decide) rfl
theorem crc_bd (k : Nat) (l : List Int) (c : Int) (hl : l.length ≤ 9223372036854775807) (h : spec_Crc32.f k l = some c) : 0 ≤ c ∧ c < 4294967296 := by
  rw [(crcSpec l c hl k).1 _ 0 h (by omega) rfl]
  have h0 := bits_lo_u32 .xor (crcT l l.length) 4294967295
  have h1 := bits_hi_u32 .xor (crcT l l.length) 4294967295
  exact ⟨h0, by omega⟩
theorem super_eq (k : Nat) (a0 a1 a2 : Int) (t : List Int) (h0 : 0 ≤ a0) (h0' : a0 < 4294967296) (h2 : 0 ≤ a2) (h2' : a2 < 4294967296) (h : spec_l2SuperBytes.f k a0 a1 a2 = some t) : cSuper k a0 a1 a2 = some t := by
  unfold spec_l2SuperBytes.f at h
  obtain ⟨x0, e0, h⟩ := Option.bind_eq_some_iff.1 h
  obtain ⟨x1, e1, h⟩ := Option.bind_eq_some_iff.1 h
  obtain ⟨x2, e2, h⟩ := Option.bind_eq_some_iff.1 h
  obtain ⟨x3, e3, h⟩ := Option.bind_eq_some_iff.1 h
  obtain ⟨x4, e4, h⟩ := Option.bind_eq_some_iff.1 h
  obtain rfl := Option.some.inj h
  obtain rfl := spec_put4 a0 h0 h0' k x0 e0
  obtain rfl := spec_put4 a2 h2 h2' k x1 e1
  obtain rfl := zeros_eq x2 k e2
  have e3 := cat_eq _ _ k e3 (by simp)
  unfold spec_l2Seal.f at e4
  obtain ⟨cr, f0, e4⟩ := Option.bind_eq_some_iff.1 e4
  obtain ⟨x5, f1, e4⟩ := Option.bind_eq_some_iff.1 e4
  obtain ⟨x6, f2, e4⟩ := Option.bind_eq_some_iff.1 e4
  obtain rfl := Option.some.inj e4
  have hb := crc_bd k x3 cr (by rw [e3]; simp [put4]) f0
  rw [show wrap64 cr = cr from by unfold wrap64; omega] at f1
  obtain rfl := spec_put4 cr hb.1 hb.2 k x5 f1
  have f2 := cat_eq _ _ k f2 (by simp)
  unfold cSuper cHead
  rw [impl_put4 (List.replicate 64 0) 0 a0 0 (by decide) rfl (by simp) (by simp) h0 h0', Option.bind_some, impl_put4 _ 8 a2 8 (by decide) rfl (by simp) (by simp) h2 h2', Option.bind_some]
  have hx3 : x3 = put4 a0 ++ [81, 49, a1 % 256, 0] ++ put4 a2 ++ List.replicate 48 0 := by rw [e3]; simp
  have hy : ∀ (b0 b1 b2 b3 d c0 c1 c2 c3 : Int), ((((((((((((List.replicate 64 (0 : Int)).set 0 b0).set (0 + 1) b1).set (0 + 2) b2).set (0 + 3) b3).set 4 81).set 5 49).set 6 d).set 8 c0).set (8 + 1) c1).set (8 + 2) c2).set (8 + 3) c3) = [b0, b1, b2, b3, 81, 49, d, 0, c0, c1, c2, c3] ++ List.replicate 52 0 := fun _ _ _ _ _ _ _ _ _ => rfl
  rw [hy]
  have ht : List.take 60 ([a0 % 256, a0 / 256 % 256, a0 / 256 / 256 % 256, a0 / 256 / 256 / 256 % 256, 81, 49, a1 % 256, 0, a2 % 256, a2 / 256 % 256, a2 / 256 / 256 % 256, a2 / 256 / 256 / 256 % 256] ++ List.replicate 52 0) = x3 := by rw [hx3]; rfl
  rw [ht, f0, Option.bind_some, impl_put4 _ 60 cr 60 (by decide) rfl (by simp) (by simp) hb.1 hb.2, f2, hx3]
  rfl

/-! ### impl_WriteSuper: function 33, proved by hand -/
-- needs spec_WriteSuper.f impl_ValidDisk.f
-- import Derived.StillTailTactics
-- import Derived.Laws.CopyOwn
def gS (b0 b1 b2 : Int) : Bool := decide (0 ≤ b0) && decide (b0 ≤ 2000000000) && (decide (b1 = 0) || decide (b1 = 1)) && decide (1 ≤ b2) && decide (b2 ≤ 2000000000)
theorem gS_facts {b0 b1 b2 : Int} (h : gS b0 b1 b2 = true) : 0 ≤ b0 ∧ b0 ≤ 2000000000 ∧ (b1 = 0 ∨ b1 = 1) ∧ 1 ≤ b2 ∧ b2 ≤ 2000000000 := by
  simp only [gS, Bool.and_eq_true, Bool.or_eq_true, decide_eq_true_eq] at h
  omega
theorem good_eq (b0 b1 b2 : Int) : impl_Super_good.f b0 b1 b2 = some (gS b0 b1 b2) := by
  unfold impl_Super_good.f impl_goodNumber.f gS
  by_cases h1 : 0 ≤ b0 <;> by_cases h2 : b0 ≤ 2000000000 <;> by_cases h3 : b1 = 0 <;> by_cases h4 : b1 = 1 <;> by_cases h5 : 1 ≤ b2 <;> by_cases h6 : b2 ≤ 2000000000 <;> simp [h1, h2, h3, h4, h5, h6]
def m_WriteSuper.f (k : Nat) (l0 : List Int) (l1 : List S79) (a2 : Int) (a3 : Bool) (b0 b1 b2 : Int) : Option (List Int × List S79 × Int × Bool) :=
  if l0.length ≤ 1048576 ∧ l1.length ≤ 1048576 ∧ l1.all (fun x => decide (x.f1.length ≤ 1048576)) = true then
    (if (vD l0 l1 a2 && gS b0 b1 b2) = true then (cSuper k b0 b1 b2).bind fun t => (m_DiskWrite.f l0 l1 a2 a3 (Int.tmod b0 2) t).bind fun d => m_DiskSync.f d.1 d.2.1 d.2.2.1 d.2.2.2 else some (l0, l1, a2, a3)) else none
set_option maxHeartbeats 4000000 in
set_option maxRecDepth 100000 in
theorem impl_WriteSuper.calls (k : Nat) (A0 : Option Addr) (c0 : Nat) (l0 : List Int) (A1 : Option Addr) (c1 : Nat) (l1 : List S79) (a2 : Int) (a3 : Bool) (b0 b1 b2 : Int) (r1 : List Int) (r2 : List S79) (r3 : Int) (r4 : Bool) (w : World) (hr0 : Kd.C (Kd.int .u8) w A0 l0.length l0) (hc0 : l0.length ≤ c0) (hr1 : Kd.C k79 w A1 l1.length l1) (hc1 : l1.length ≤ c1) (h : m_WriteSuper.f k l0 l1 a2 a3 b0 b1 b2 = some (r1, r2, r3, r4)) :
    Calls Try.prog 33 #[.agg #[.slice A0 l0.length c0, .slice A1 l1.length c1, .int .i64 a2, .bool a3], .agg #[.int .i64 b0, .int .i64 b1, .int .i64 b2]] w fun e w' => ∃ v0_ v1_ : Value, e = .returned (.agg #[v0_, v1_, .int .i64 r3, .bool r4]) ∧ Kd.R (Kd.int .u8) 5 w' w.heap.size (fun _ => True) v0_ r1 ∧ Kd.S k79 79 w' w.heap.size (fun k_ => some k_ ≠ (v0_ : Value).ownBlock) v1_ r2 ∧ Below w.heap.size w w' := by
  unfold m_WriteSuper.f at h
  by_cases hL : l0.length ≤ 1048576 ∧ l1.length ≤ 1048576 ∧ l1.all (fun x => decide (x.f1.length ≤ 1048576)) = true
  case neg => rw [if_neg hL] at h; cases h
  rw [if_pos hL] at h
  have hok : okPendS l1 := ⟨hL.2.1, fun x hx => by have := List.all_eq_true.1 hL.2.2 x hx; simpa using this⟩
  obtain ⟨kv, hv⟩ := (implValid_ev l0 l1 a2 a3 hL.1 hL.2.1).rounds
  have HL := Aside0.mk hL.1
  have HOK := Aside0.mk hok
  have HV := Aside0.mk hv
  have HR0 := Aside0.mk hr0
  have HC0 := Aside0.mk hc0
  have HR1 := Aside0.mk hr1
  have HC1 := Aside0.mk hc1
  clear hr0 hc0 hr1 hc1 hv hL hok
  have ER := Aside0.mk h
  clear h
  have hu25 := Try.underlying25
  have hu40 := Try.underlying40
  have HB := Aside0.mk (Below.refl w.heap.size w)
  go_enter Try.func33, Try.ntmps33
  go_wp2_with fail
  refine (impl_ValidDisk.calls kv _ _ l0 _ _ l1 a2 a3 _ _ (Kd.C_alloc (Kd.C_alloc (Kd.C_alloc HR0.out _) _) _) HC0.out (Kd.C_alloc (Kd.C_alloc (Kd.C_alloc HR1.out _) _) _) HC1.out HV.out).mono ?_
  rintro e w1 ⟨rfl, gb⟩
  have K1 := Aside0.mk (show w1.heap[w.heap.size]? = some (.cells #[.slice A0 l0.length c0, .slice A1 l1.length c1, .int .i64 a2, .bool a3] 25 (0, 0)) from blk_below (blk_alloc (blk_alloc (blk_new _ _) _) _) gb)
  have K2 := Aside0.mk (show w1.heap[w.heap.size + 1]? = some (.cells #[.int .i64 b0, .int .i64 b1, .int .i64 b2] 40 (0, 0)) from blk_below (blk_alloc (blk_new2 _ _ _) _) gb)
  have K4 := Aside0.mk (show w1.heap[w.heap.size + 1 + 1]? = some (.cells #[.slice none 0 0, .slice none 0 0, .int .i64 0, .bool false] 25 (0, 0)) from blk_below (blk_new3 _ _ _ _) gb)
  have N_HB := Aside0.mk (below_step (below_alloc (below_alloc (below_alloc HB.out _) _) _) gb)
  clear HB gb
  have HB := N_HB
  clear N_HB
  have clone : (r1, r2, r3, r4) = (l0, l1, a2, a3) → ∀ W, Below w.heap.size w W → Calls Try.prog 56 #[.agg #[.slice A0 l0.length c0, .slice A1 l1.length c1, .int .i64 a2, .bool a3]] W fun e w' => ∃ v0_ v1_ : Value, e = .returned (.agg #[v0_, v1_, .int .i64 r3, .bool r4]) ∧ Kd.R (Kd.int .u8) 5 w' W.heap.size (fun _ => True) v0_ r1 ∧ Kd.S k79 79 w' W.heap.size (fun k_ => some k_ ≠ (v0_ : Value).ownBlock) v1_ r2 ∧ Below W.heap.size W w' := by
    intro he W hW
    simp only [Prod.mk.injEq] at he
    obtain ⟨rfl, rfl, rfl, rfl⟩ := he
    exact impl_Disk_clone.calls _ _ _ _ _ _ _ _ _ (Kd.C_below HR0.out hW) HC0.out (Kd.C_below HR1.out hW) HC1.out HL.out HOK.out
  have CL := Aside0.mk clone
  clear clone
  by_cases cv : vD l0 l1 a2 = true
  case neg =>
    obtain ⟨z0, z1, z2, z3, y0, y1, y2, y3⟩ := blk_cells4 K1.out
    have yl := blk_lt K1.out
    have cv' : vD l0 l1 a2 = false := by simpa using cv
    have er := ER.out
    rw [cv', Bool.false_and, if_neg (by decide)] at er
    replace er := Option.some.inj er
    rw [cv']
    clear cv cv'
    go_wp2_with fail
    refine (CL.out er.symm _ HB.out).mono ?_
    rintro e w2 ⟨v0, v1, rfl, hR, hS, gb⟩
    obtain ⟨A, c, ea⟩ := Kd.R_slice hR
    obtain ⟨B, d, eb⟩ := Kd.S_slice hS
    obtain ⟨f1, f2, f3, f4, f5⟩ := fin_disk (r3 := r3) (r4 := r4) HB.out (by omega) K4.out hR hS gb
    have F2 := Aside0.mk f2
    have F3 := Aside0.mk f3
    have F4 := Aside0.mk f4
    have F5 := Aside0.mk f5
    obtain ⟨x0, x1, x2, x3, u0, u1, u2, u3⟩ := blk_cells4 f1
    have ul := blk_lt f1
    clear f1 f2 f3 f4 f5 hR hS gb
    generalize r1.length = n1 at ea
    generalize r2.length = n2 at eb
    subst ea
    subst eb
    go_wp2_with fail
    exact bodyPost_ret (results_cell_row rfl _ _ (w.heap.size + 1 + 1) 25 _ (0, 0) _ rfl F2.out Try.underlying25 rfl (by kernel_rfl)) rfl ⟨_, _, rfl, F3.out, F4.out, F5.out⟩
  have CV := Aside0.mk cv
  rw [cv]
  clear cv
  have s0 : w1.cell? ⟨w.heap.size + 1, 0, none⟩ = some (.int .i64 b0) := (blk_cell K2.out 0).trans rfl
  have s1 : w1.cell? ⟨w.heap.size + 1, 1, none⟩ = some (.int .i64 b1) := (blk_cell K2.out 1).trans rfl
  have s2 : w1.cell? ⟨w.heap.size + 1, 2, none⟩ = some (.int .i64 b2) := (blk_cell K2.out 2).trans rfl
  go_wp2_with fail
  refine (impl_Super_good.calls b0 b1 b2 _ _ (good_eq b0 b1 b2)).mono ?_
  rintro e w2 ⟨rfl, gb⟩
  clear s0 s1 s2
  replace K1 := Aside0.mk (blk_below K1.out gb)
  replace K2 := Aside0.mk (blk_below K2.out gb)
  replace K4 := Aside0.mk (blk_below K4.out gb)
  replace HB := Aside0.mk (below_step HB.out gb)
  clear gb
  by_cases cg : gS b0 b1 b2 = true
  case neg =>
    obtain ⟨z0, z1, z2, z3, y0, y1, y2, y3⟩ := blk_cells4 K1.out
    have yl := blk_lt K1.out
    have cg' : gS b0 b1 b2 = false := by simpa using cg
    have er := ER.out
    rw [cg', Bool.and_false, if_neg (by decide)] at er
    replace er := Option.some.inj er
    rw [cg']
    clear cg cg'
    go_wp2_with fail
    refine (CL.out er.symm _ HB.out).mono ?_
    rintro e w3 ⟨v0, v1, rfl, hR, hS, gb⟩
    obtain ⟨A, c, ea⟩ := Kd.R_slice hR
    obtain ⟨B, d, eb⟩ := Kd.S_slice hS
    obtain ⟨f1, f2, f3, f4, f5⟩ := fin_disk (r3 := r3) (r4 := r4) HB.out (by omega) K4.out hR hS gb
    have F2 := Aside0.mk f2
    have F3 := Aside0.mk f3
    have F4 := Aside0.mk f4
    have F5 := Aside0.mk f5
    obtain ⟨x0, x1, x2, x3, u0, u1, u2, u3⟩ := blk_cells4 f1
    have ul := blk_lt f1
    clear f1 f2 f3 f4 f5 hR hS gb
    generalize r1.length = n1 at ea
    generalize r2.length = n2 at eb
    subst ea
    subst eb
    go_wp2_with fail
    exact bodyPost_ret (results_cell_row rfl _ _ (w.heap.size + 1 + 1) 25 _ (0, 0) _ rfl F2.out Try.underlying25 rfl (by kernel_rfl)) rfl ⟨_, _, rfl, F3.out, F4.out, F5.out⟩
  have er := ER.out
  rw [CV.out, cg, Bool.true_and, if_pos rfl] at er
  have CG := Aside0.mk cg
  rw [cg]
  clear cg ER
  obtain ⟨t, e0, er⟩ := Option.bind_eq_some_iff.1 er
  obtain ⟨⟨d1, d2, d3, d4⟩, e1, e2⟩ := Option.bind_eq_some_iff.1 er
  have E0 := Aside0.mk e0
  have E1 := Aside0.mk e1
  have E2 := Aside0.mk e2
  clear e0 e1 e2 er
  have s0 : w2.cell? ⟨w.heap.size + 1, 0, none⟩ = some (.int .i64 b0) := (blk_cell K2.out 0).trans rfl
  have s1 : w2.cell? ⟨w.heap.size + 1, 1, none⟩ = some (.int .i64 b1) := (blk_cell K2.out 1).trans rfl
  have s2 : w2.cell? ⟨w.heap.size + 1, 2, none⟩ = some (.int .i64 b2) := (blk_cell K2.out 2).trans rfl
  go_wp2_with fail
  refine (impl_code_arr k b0 b1 b2 t w2 E0.out (fun l c hl h => crc_bd k l c (by omega) h)).mono ?_
  rintro e w3 ⟨rfl, htl, gb⟩
  clear s0 s1 s2
  replace K1 := Aside0.mk (blk_below K1.out gb)
  replace K2 := Aside0.mk (blk_below K2.out gb)
  replace K4 := Aside0.mk (blk_below K4.out gb)
  replace HB := Aside0.mk (below_step HB.out gb)
  clear gb
  have yz : (w3.alloc (.cells (Array.replicate 64 (.int .u8 0)) 84)).heap[w3.heap.size]? = some (.cells (Array.replicate 64 (.int .u8 0)) 84 (0, 0)) := blk_new _ _
  have hst := Aside0.mk (store_arr (P := Try.prog) (w3.alloc (.cells (Array.replicate 64 (.int .u8 0)) 84)) w3.heap.size 84 84 _ (t.map (Value.int .u8)).toArray yz (by rw [List.size_toArray, List.length_map, htl]; kernel_rfl) (by simp [htl]) (by simp [Value.oneCell']))
  have YZ := Aside0.mk yz
  clear yz
  go_wp2_with (first | ((with_reducible refine gate_store (t := 84) (p := 5) rfl ?_); refine store_event rfl rfl rfl (exec_store _ _ _ rfl rfl rfl hst.out) ?_; intro w4 hw4; have HW4 := Aside0.mk hw4; clear hw4))
  have hl3 := HB.out.size
  have hk4 := blk_lt K4.out
  have KA := Aside0.mk (show w4.heap[w3.heap.size]? = some (.cells (t.map (Value.int .u8)).toArray 84 (0, 0)) by rw [HW4.out]; exact setRow_heap _ _ _ _ _ _ YZ.out)
  replace K1 := Aside0.mk (show w4.heap[w.heap.size]? = some (.cells #[.slice A0 l0.length c0, .slice A1 l1.length c1, .int .i64 a2, .bool a3] 25 (0, 0)) by rw [HW4.out]; exact (setRow_other _ _ _ _ (by omega)).trans (blk_alloc K1.out _))
  replace K2 := Aside0.mk (show w4.heap[w.heap.size + 1]? = some (.cells #[.int .i64 b0, .int .i64 b1, .int .i64 b2] 40 (0, 0)) by rw [HW4.out]; exact (setRow_other _ _ _ _ (by omega)).trans (blk_alloc K2.out _))
  replace K4 := Aside0.mk (show w4.heap[w.heap.size + 1 + 1]? = some (.cells #[.slice none 0 0, .slice none 0 0, .int .i64 0, .bool false] 25 (0, 0)) by rw [HW4.out]; exact (setRow_other _ _ _ _ (by omega)).trans (blk_alloc K4.out _))
  replace HB := Aside0.mk (show Below w.heap.size w w4 by rw [HW4.out]; exact below_setRow (g := w3.heap.size) (below_alloc HB.out _) hl3 _)
  clear hst YZ HW4 CL er
  generalize w3.heap.size = gA at *
  go_still_tail 5, (by kernel_rfl)
  change wpStill _ _ w4.drew (fun a' => wpList _ _ _ _ a' w4.drew) _ _
  replace KA := Aside0.mk (blk_drew KA.out)
  replace K1 := Aside0.mk (blk_drew K1.out)
  replace K2 := Aside0.mk (blk_drew K2.out)
  replace K4 := Aside0.mk (blk_drew K4.out)
  replace HB := Aside0.mk (below_drew1 HB.out)
  generalize w4.drew = W at *
  obtain ⟨z0, z1, z2, z3, y0, y1, y2, y3⟩ := blk_cells4 K1.out
  have s0 : W.cell? ⟨w.heap.size + 1, 0, none⟩ = some (.int .i64 b0) := (blk_cell K2.out 0).trans rfl
  repeat still_step
  refine wpStill_nil ?_
  go_wp2_with fail
  have hC : Kd.C (Kd.int .u8) W (some ⟨gA, 0, none⟩) t.length t := C_of_cells (by omega) _ (fun j x hj => by rw [add_plain]; exact (blk_cell KA.out j).trans (by simp [hj]))
  have hdw := impl_DiskWrite.calls A0 c0 l0 A1 c1 l1 a2 a3 (Int.tmod b0 2) (some ⟨gA, 0, none⟩) 64 t d1 d2 d3 d4 W (Kd.C_below HR0.out HB.out) HC0.out (Kd.C_below HR1.out HB.out) HC1.out hC (by omega) E1.out
  rw [htl] at hdw
  refine hdw.mono ?_
  rintro e w5 ⟨v0, v1, rfl, hR, hS, gb⟩
  obtain ⟨A, c, ea⟩ := Kd.R_slice hR
  obtain ⟨B, d, eb⟩ := Kd.S_slice hS
  subst ea
  subst eb
  replace K4 := Aside0.mk (blk_below K4.out gb)
  replace HB := Aside0.mk (below_step HB.out gb)
  clear z0 z1 z2 z3 y0 y1 y2 y3 s0 hC hdw gb K1 K2 KA
  go_wp2_with fail
  refine (impl_DiskSync.calls A c d1 B d d2 d3 d4 r1 r2 r3 r4 w5 (Kd.R_reads' hR).2.2 (Kd.R_reads' hR).2.1 (Kd.R_reads' (Kd.S_R hS)).2.2 (Kd.R_reads' (Kd.S_R hS)).2.1 E2.out).mono ?_
  clear hR hS
  rintro e w6 ⟨v0, v1, rfl, hR, hS, gb⟩
  obtain ⟨A, c, ea⟩ := Kd.R_slice hR
  obtain ⟨B, d, eb⟩ := Kd.S_slice hS
  obtain ⟨f1, f2, f3, f4, f5⟩ := fin_disk (r3 := r3) (r4 := r4) HB.out (by omega) K4.out hR hS gb
  have F2 := Aside0.mk f2
  have F3 := Aside0.mk f3
  have F4 := Aside0.mk f4
  have F5 := Aside0.mk f5
  obtain ⟨x0, x1, x2, x3, u0, u1, u2, u3⟩ := blk_cells4 f1
  have ul := blk_lt f1
  clear f1 f2 f3 f4 f5 hR hS gb
  generalize r1.length = n1 at ea
  generalize r2.length = n2 at eb
  subst ea
  subst eb
  go_wp2_with fail
  exact bodyPost_ret (results_cell_row rfl _ _ (w.heap.size + 1 + 1) 25 _ (0, 0) _ rfl F2.out Try.underlying25 rfl (by kernel_rfl)) rfl ⟨_, _, rfl, F3.out, F4.out, F5.out⟩

/-! ### laws_heldByteS: function 74 -/
def laws_heldByteS.l0 : Nat → List Int → Int → Int → Option (Int)
  | 0, _, _, _ => none
  | k + 1, x0, x1, x5 => if x5 < (x0.length : Int) then (if 0 ≤ x5 then (if (rd x0 x5) = ((x1) % 256) then (laws_heldByteS.l0 k x0 (wrap64 (x1 + 1)) (wrap64 (x5 + 1))) else (some (-1))) else (none)) else (some x1)
def laws_heldByteS.f (k : Nat) (l0 : List Int) (a1 : Int) : Option (Int) := laws_heldByteS.l0 k l0 a1 0
theorem laws_heldByteS.mono_l : ∀ k, (∀ y0 y1 y2, LeO (laws_heldByteS.l0 k y0 y1 y2) (laws_heldByteS.l0 (k + 1) y0 y1 y2))
  | 0 => fun _ _ _ r h => by simp [laws_heldByteS.l0] at h
  | k + 1 => by
    have ih0 := laws_heldByteS.mono_l k
    · intro y0 y1 y2
      unfold laws_heldByteS.l0
      repeat' first
      | (with_reducible exact ih0 _ _ _)
      | (with_reducible exact LeO.refl _)
      | (with_reducible exact LeO.none _)
      | (with_reducible refine LeO.ite ?_ ?_)
      | (with_reducible refine LeO.bind ?_ (fun _ => ?_))
      | exact ih0 _ _ _
      | exact LeO.none _
      | refine LeO.ite ?_ ?_
      | refine LeO.bind ?_ (fun _ => ?_)
theorem laws_heldByteS.mono : ∀ a0 a1 k, LeO (laws_heldByteS.f k a0 a1) (laws_heldByteS.f (k + 1) a0 a1) := by
  intro a0 a1 k
  have ih0 := laws_heldByteS.mono_l k
  unfold laws_heldByteS.f
  repeat' first
      | (with_reducible exact ih0 _ _ _)
      | (with_reducible exact LeO.refl _)
      | (with_reducible exact LeO.none _)
      | (with_reducible refine LeO.ite ?_ ?_)
      | (with_reducible refine LeO.bind ?_ (fun _ => ?_))
      | exact ih0 _ _ _
      | exact LeO.none _
      | refine LeO.ite ?_ ?_
      | refine LeO.bind ?_ (fun _ => ?_)
set_option maxHeartbeats 8000000 in
set_option maxRecDepth 100000 in
theorem laws_heldByteS.calls (k : Nat) (A0 : Option Addr) (c0 : Nat) (l0 : List Int) (a1 : Int) (r : Int) (w : World) (hr0 : Kd.C (Kd.int .u8) w A0 l0.length l0) (hc0 : l0.length ≤ c0) (h : laws_heldByteS.f k l0 a1 = some r) :
    Calls Try.prog 74 #[.slice A0 l0.length c0, .int .i64 a1] w fun e w' => e = .returned (.int .i64 r) ∧ Drawn0 w w' := by
  have HR0 := Aside0.mk hr0
  have HC0 := Aside0.mk hc0
  clear hr0 hc0
  have H : (laws_heldByteS.l0 k l0 a1 0) = some r := h
  clear h
  have H' := Aside0.mk H
  clear H
  go_enter Try.func74, Try.ntmps74
  go_wp2
  go_loopg [1, 5] k (fun kq v1 v5 w' => ∃ (x1_1 : Int) (x5_1 : Int), v1 = .int .i64 x1_1 ∧ v5 = .int .i64 x5_1 ∧ Aside0 (laws_heldByteS.l0 kq l0 x1_1 x5_1 = some r) ∧ Aside0 (kq ≤ k) ∧ Drawn0 w w')
  case atStart => exact ⟨(a1), (0), (by first | rfl | (simp; done) | (simp [*]; done)), (by first | rfl | (simp; done) | (simp [*]; done)), H', ⟨Nat.le_refl _⟩, by repeat (first | exact Drawn0.refl _ | apply Drawn0.step)⟩
  case round =>
    clear H'
    try clear p2
    obtain ⟨x1_1, x5_1, rfl, rfl, HA, HK1, ⟨m1, rfl⟩⟩ := hrel
    cases gk with
    | zero => exact absurd HA.out (by simp [laws_heldByteS.l0])
    | succ k1 =>
      have H := HA.out
      clear HA
      simp only [laws_heldByteS.l0] at H
      by_cases c3 : x5_1 < (l0.length : Int)
      · rw [if_pos c3] at H
        have c3b0 : decide (x5_1 < (l0.length : Int)) = true := decide_eq_true c3
        clear c3
        by_cases c4 : 0 ≤ x5_1
        · rw [if_pos c4] at H
          have c4b0 : decide (0 ≤ x5_1) = true := decide_eq_true c4
          clear c4
          by_cases c5 : (rd l0 x5_1) = ((x1_1) % 256)
          · rw [if_pos c5] at H
            have c5b0 : ((rd l0 x5_1) == ((x1_1) % 256)) = true := beq_iff_eq.mpr c5
            have c5b1 : ((rd l0 x5_1) != ((x1_1) % 256)) = false := bne_eq_false_iff_eq.mpr c5
            clear c5
            have H' := Aside0.mk H
            clear H
            have p499 : 0 ≤ (x5_1 : Int) := of_decide_eq_true (by first | (with_reducible assumption) | assumption)
            have q499 : x5_1 < (l0.length : Int) := of_decide_eq_true (by first | (with_reducible assumption) | assumption)
            obtain ⟨ad499, e499, hx499_0⟩ := Kd.at_int HR0.out x5_1 p499 q499
            cases e499
            replace p499 := eq_true p499
            replace q499 := eq_true q499
            go_wp2
            go_roundg k1
            case measure => have := HK1.out; omega
            case rel => exact ⟨(wrap64 (x1_1 + 1)), (wrap64 (x5_1 + 1)), (by first | rfl | (simp; done) | (simp [*]; done)), (by first | rfl | (simp; done) | (simp [*]; done)), H', ⟨by have := HK1.out; omega⟩, by repeat (first | exact Drawn0.refl _ | apply Drawn0.step)⟩
          · rw [if_neg c5] at H
            have c5b0 : ((rd l0 x5_1) == ((x1_1) % 256)) = false := beq_eq_false_iff_ne.mpr c5
            have c5b1 : ((rd l0 x5_1) != ((x1_1) % 256)) = true := bne_iff_ne.mpr c5
            obtain rfl := Option.some.inj H
            have p499 : 0 ≤ (x5_1 : Int) := of_decide_eq_true (by first | (with_reducible assumption) | assumption)
            have q499 : x5_1 < (l0.length : Int) := of_decide_eq_true (by first | (with_reducible assumption) | assumption)
            obtain ⟨ad499, e499, hx499_0⟩ := Kd.at_int HR0.out x5_1 p499 q499
            cases e499
            replace p499 := eq_true p499
            replace q499 := eq_true q499
            go_wp2
            go_ret
            exact ⟨by first | rfl | (simp; done) | (simp [*]; done), by repeat (first | exact Drawn0.refl _ | apply Drawn0.step)⟩
        · rw [if_neg c4] at H
          exact absurd H (by simp)
      · rw [if_neg c3] at H
        have c3b0 : decide (x5_1 < (l0.length : Int)) = false := decide_eq_false c3
        clear c3
        obtain rfl := Option.some.inj H
        go_wp2
        go_ret
        exact ⟨by first | rfl | (simp; done) | (simp [*]; done), by repeat (first | exact Drawn0.refl _ | apply Drawn0.step)⟩

/-! ### laws_heldPendS: function 83 -/
def laws_heldPendS.l0 : Nat → List (S79) → Int → Int → Option (Int)
  | 0, _, _, _ => none
  | k + 1, x0, x1, x5 => if x5 < (x0.length : Int) then (if 0 ≤ x5 then (if ((rd_T79 x0 x5).f0) = x1 then ((laws_heldByteS.f k ((rd_T79 x0 x5).f1) (wrap64 (x1 + 1))).bind fun t502 => (if t502 < 0 then (some (-1)) else (laws_heldPendS.l0 k x0 t502 (wrap64 (x5 + 1))))) else (some (-1))) else (none)) else (some x1)
def laws_heldPendS.f (k : Nat) (l0 : List (S79)) (a1 : Int) : Option (Int) := laws_heldPendS.l0 k l0 a1 0
theorem laws_heldPendS.mono_l : ∀ k, (∀ y0 y1 y2, LeO (laws_heldPendS.l0 k y0 y1 y2) (laws_heldPendS.l0 (k + 1) y0 y1 y2))
  | 0 => fun _ _ _ r h => by simp [laws_heldPendS.l0] at h
  | k + 1 => by
    have ih0 := laws_heldPendS.mono_l k
    · intro y0 y1 y2
      unfold laws_heldPendS.l0
      repeat' first
      | (with_reducible exact ih0 _ _ _)
      | (with_reducible exact laws_heldByteS.mono _ _ _)
      | (with_reducible exact LeO.refl _)
      | (with_reducible exact LeO.none _)
      | (with_reducible refine LeO.ite ?_ ?_)
      | (with_reducible refine LeO.bind ?_ (fun _ => ?_))
      | exact ih0 _ _ _
      | exact laws_heldByteS.mono _ _ _
      | exact LeO.none _
      | refine LeO.ite ?_ ?_
      | refine LeO.bind ?_ (fun _ => ?_)
theorem laws_heldPendS.mono : ∀ a0 a1 k, LeO (laws_heldPendS.f k a0 a1) (laws_heldPendS.f (k + 1) a0 a1) := by
  intro a0 a1 k
  have ih0 := laws_heldPendS.mono_l k
  unfold laws_heldPendS.f
  repeat' first
      | (with_reducible exact ih0 _ _ _)
      | (with_reducible exact laws_heldByteS.mono _ _ _)
      | (with_reducible exact LeO.refl _)
      | (with_reducible exact LeO.none _)
      | (with_reducible refine LeO.ite ?_ ?_)
      | (with_reducible refine LeO.bind ?_ (fun _ => ?_))
      | exact ih0 _ _ _
      | exact laws_heldByteS.mono _ _ _
      | exact LeO.none _
      | refine LeO.ite ?_ ?_
      | refine LeO.bind ?_ (fun _ => ?_)
set_option maxHeartbeats 8000000 in
set_option maxRecDepth 100000 in
theorem laws_heldPendS.calls (k : Nat) (A0 : Option Addr) (c0 : Nat) (l0 : List (S79)) (a1 : Int) (r : Int) (w : World) (hr0 : Kd.C k79 w A0 l0.length l0) (hc0 : l0.length ≤ c0) (h : laws_heldPendS.f k l0 a1 = some r) :
    Calls Try.prog 83 #[.slice A0 l0.length c0, .int .i64 a1] w fun e w' => e = .returned (.int .i64 r) ∧ Drawn0 w w' := by
  have HR0 := Aside0.mk hr0
  have HC0 := Aside0.mk hc0
  clear hr0 hc0
  have H : (laws_heldPendS.l0 k l0 a1 0) = some r := h
  clear h
  have H' := Aside0.mk H
  clear H
  go_enter Try.func83, Try.ntmps83
  go_wp2
  go_loopg [1, 5] k (fun kq v1 v5 w' => ∃ (x1_1 : Int) (x5_1 : Int), v1 = .int .i64 x1_1 ∧ v5 = .int .i64 x5_1 ∧ Aside0 (laws_heldPendS.l0 kq l0 x1_1 x5_1 = some r) ∧ Aside0 (kq ≤ k) ∧ Drawn0 w w')
  case atStart => exact ⟨(a1), (0), (by first | rfl | (simp; done) | (simp [*]; done)), (by first | rfl | (simp; done) | (simp [*]; done)), H', ⟨Nat.le_refl _⟩, by repeat (first | exact Drawn0.refl _ | apply Drawn0.step)⟩
  case round =>
    clear H'
    try clear p2
    obtain ⟨x1_1, x5_1, rfl, rfl, HA, HK1, ⟨m1, rfl⟩⟩ := hrel
    cases gk with
    | zero => exact absurd HA.out (by simp [laws_heldPendS.l0])
    | succ k1 =>
      have H := HA.out
      clear HA
      simp only [laws_heldPendS.l0] at H
      by_cases c3 : x5_1 < (l0.length : Int)
      · rw [if_pos c3] at H
        have c3b0 : decide (x5_1 < (l0.length : Int)) = true := decide_eq_true c3
        clear c3
        by_cases c4 : 0 ≤ x5_1
        · rw [if_pos c4] at H
          have c4b0 : decide (0 ≤ x5_1) = true := decide_eq_true c4
          clear c4
          by_cases c5 : ((rd_T79 l0 x5_1).f0) = x1_1
          · rw [if_pos c5] at H
            have c5b0 : (((rd_T79 l0 x5_1).f0) == x1_1) = true := beq_iff_eq.mpr c5
            have c5b1 : (((rd_T79 l0 x5_1).f0) != x1_1) = false := bne_eq_false_iff_eq.mpr c5
            clear c5
            replace H := Option.bind_eq_some_iff.mp H
            obtain ⟨t502, A60, H⟩ := H
            replace H : (if t502 < 0 then (some (-1)) else (laws_heldPendS.l0 k1 l0 t502 (wrap64 (x5_1 + 1)))) = some r := H
            have A6 := Aside0.mk A60
            clear A60
            by_cases c7 : t502 < 0
            · rw [if_pos c7] at H
              have c7b0 : decide (t502 < 0) = true := decide_eq_true c7
              clear c7
              obtain rfl := Option.some.inj H
              have p500 : 0 ≤ (x5_1 : Int) := of_decide_eq_true (by first | (with_reducible assumption) | assumption)
              have q500 : x5_1 < (l0.length : Int) := of_decide_eq_true (by first | (with_reducible assumption) | assumption)
              obtain ⟨ad500, A500_1, c500_1, e500, hx500_0, hx500_1, hl500_1, hi500_1⟩ := at_T79 HR0.out x5_1 p500 q500
              cases e500
              have HR500_1 := Aside0.mk hi500_1
              have HC500_1 := Aside0.mk hl500_1
              clear hi500_1 hl500_1
              replace p500 := eq_true p500
              replace q500 := eq_true q500
              have p501 : 0 ≤ (x5_1 : Int) := of_decide_eq_true (by first | (with_reducible assumption) | assumption)
              have q501 : x5_1 < (l0.length : Int) := of_decide_eq_true (by first | (with_reducible assumption) | assumption)
              obtain ⟨ad501, A501_1, c501_1, e501, hx501_0, hx501_1, hl501_1, hi501_1⟩ := at_T79 HR0.out x5_1 p501 q501
              obtain rfl : ad500 = ad501 := (by injection e501)
              have HR501_1 := Aside0.mk hi501_1
              have HC501_1 := Aside0.mk hl501_1
              clear hi501_1 hl501_1
              replace p501 := eq_true p501
              replace q501 := eq_true q501
              have ea_ := Option.some.inj (hx500_1.symm.trans hx501_1)
              injection ea_ with ea_ en_ ec_
              subst ea_
              subst ec_
              clear en_
              go_wp2_with (first | ((with_reducible refine gate_callee (f := 74) rfl ?_); refine goesL_ (some 27) rfl rfl Try.func74 (by kernel_rfl) rfl #[.slice A500_1 ((rd_T79 l0 x5_1).f1).length c500_1, .int .i64 (wrap64 (x1_1 + 1))] rfl (by (try simp only [List.map_toArray, List.map_cons, List.map_nil]); first | done | rfl | (simp only [List.length_drop, List.length_take]; rfl)) ?_; (with_reducible refine (laws_heldByteS.calls k1 _ _ ((rd_T79 l0 x5_1).f1) (wrap64 (x1_1 + 1)) t502 _ ?side1 ?side2 A6.out).mono ?_); (case side1 => repeat (first | exact HR501_1.out | (with_reducible refine Kd.C_alloc ?_ _) | (with_reducible refine Kd.C_drewN ?_ _) | (with_reducible refine Kd.C_drew ?_))); (case side2 => exact HC501_1.out); rintro e w' ⟨rfl, ⟨nd, rfl⟩⟩; refine ⟨_, rfl, ?_⟩))
              go_ret
              exact ⟨by first | rfl | (simp; done) | (simp [*]; done), by repeat (first | exact Drawn0.refl _ | apply Drawn0.step)⟩
            · rw [if_neg c7] at H
              have c7b0 : decide (t502 < 0) = false := decide_eq_false c7
              clear c7
              have H' := Aside0.mk H
              clear H
              have p500 : 0 ≤ (x5_1 : Int) := of_decide_eq_true (by first | (with_reducible assumption) | assumption)
              have q500 : x5_1 < (l0.length : Int) := of_decide_eq_true (by first | (with_reducible assumption) | assumption)
              obtain ⟨ad500, A500_1, c500_1, e500, hx500_0, hx500_1, hl500_1, hi500_1⟩ := at_T79 HR0.out x5_1 p500 q500
              cases e500
              have HR500_1 := Aside0.mk hi500_1
              have HC500_1 := Aside0.mk hl500_1
              clear hi500_1 hl500_1
              replace p500 := eq_true p500
              replace q500 := eq_true q500
              have p501 : 0 ≤ (x5_1 : Int) := of_decide_eq_true (by first | (with_reducible assumption) | assumption)
              have q501 : x5_1 < (l0.length : Int) := of_decide_eq_true (by first | (with_reducible assumption) | assumption)
              obtain ⟨ad501, A501_1, c501_1, e501, hx501_0, hx501_1, hl501_1, hi501_1⟩ := at_T79 HR0.out x5_1 p501 q501
              obtain rfl : ad500 = ad501 := (by injection e501)
              have HR501_1 := Aside0.mk hi501_1
              have HC501_1 := Aside0.mk hl501_1
              clear hi501_1 hl501_1
              replace p501 := eq_true p501
              replace q501 := eq_true q501
              have ea_ := Option.some.inj (hx500_1.symm.trans hx501_1)
              injection ea_ with ea_ en_ ec_
              subst ea_
              subst ec_
              clear en_
              go_wp2_with (first | ((with_reducible refine gate_callee (f := 74) rfl ?_); refine goesL_ (some 27) rfl rfl Try.func74 (by kernel_rfl) rfl #[.slice A500_1 ((rd_T79 l0 x5_1).f1).length c500_1, .int .i64 (wrap64 (x1_1 + 1))] rfl (by (try simp only [List.map_toArray, List.map_cons, List.map_nil]); first | done | rfl | (simp only [List.length_drop, List.length_take]; rfl)) ?_; (with_reducible refine (laws_heldByteS.calls k1 _ _ ((rd_T79 l0 x5_1).f1) (wrap64 (x1_1 + 1)) t502 _ ?side1 ?side2 A6.out).mono ?_); (case side1 => repeat (first | exact HR501_1.out | (with_reducible refine Kd.C_alloc ?_ _) | (with_reducible refine Kd.C_drewN ?_ _) | (with_reducible refine Kd.C_drew ?_))); (case side2 => exact HC501_1.out); rintro e w' ⟨rfl, ⟨nd, rfl⟩⟩; refine ⟨_, rfl, ?_⟩))
              go_roundg k1
              case measure => have := HK1.out; omega
              case rel => exact ⟨(t502), (wrap64 (x5_1 + 1)), (by first | rfl | (simp; done) | (simp [*]; done)), (by first | rfl | (simp; done) | (simp [*]; done)), H', ⟨by have := HK1.out; omega⟩, by repeat (first | exact Drawn0.refl _ | apply Drawn0.step)⟩
          · rw [if_neg c5] at H
            have c5b0 : (((rd_T79 l0 x5_1).f0) == x1_1) = false := beq_eq_false_iff_ne.mpr c5
            have c5b1 : (((rd_T79 l0 x5_1).f0) != x1_1) = true := bne_iff_ne.mpr c5
            obtain rfl := Option.some.inj H
            have p500 : 0 ≤ (x5_1 : Int) := of_decide_eq_true (by first | (with_reducible assumption) | assumption)
            have q500 : x5_1 < (l0.length : Int) := of_decide_eq_true (by first | (with_reducible assumption) | assumption)
            obtain ⟨ad500, A500_1, c500_1, e500, hx500_0, hx500_1, hl500_1, hi500_1⟩ := at_T79 HR0.out x5_1 p500 q500
            cases e500
            have HR500_1 := Aside0.mk hi500_1
            have HC500_1 := Aside0.mk hl500_1
            clear hi500_1 hl500_1
            replace p500 := eq_true p500
            replace q500 := eq_true q500
            go_wp2
            go_ret
            exact ⟨by first | rfl | (simp; done) | (simp [*]; done), by repeat (first | exact Drawn0.refl _ | apply Drawn0.step)⟩
        · rw [if_neg c4] at H
          exact absurd H (by simp)
      · rw [if_neg c3] at H
        have c3b0 : decide (x5_1 < (l0.length : Int)) = false := decide_eq_false c3
        clear c3
        obtain rfl := Option.some.inj H
        go_wp2
        go_ret
        exact ⟨by first | rfl | (simp; done) | (simp [*]; done), by repeat (first | exact Drawn0.refl _ | apply Drawn0.step)⟩

/-! ### laws_heldDisk: function 34 -/
def laws_heldDisk.f (k : Nat) (l0_0 : List Int) (l0_1 : List (S79)) (a0_2 : Int) (a0_3 : Bool) (a1 : Int) : Option (Int) := (laws_heldByteS.f k l0_0 a1).bind fun t504 => (if t504 < 0 then (some (-1)) else ((laws_heldPendS.f k l0_1 t504).bind fun t505 => (if t505 < 0 then (some (-1)) else (some t505))))
theorem laws_heldDisk.mono : ∀ a0 a1 a2 a3 a4 k, LeO (laws_heldDisk.f k a0 a1 a2 a3 a4) (laws_heldDisk.f (k + 1) a0 a1 a2 a3 a4) := by
  intro a0 a1 a2 a3 a4 k
  unfold laws_heldDisk.f
  repeat' first
      | (with_reducible exact laws_heldByteS.mono _ _ _)
      | (with_reducible exact laws_heldPendS.mono _ _ _)
      | (with_reducible exact LeO.refl _)
      | (with_reducible exact LeO.none _)
      | (with_reducible refine LeO.ite ?_ ?_)
      | (with_reducible refine LeO.bind ?_ (fun _ => ?_))
      | exact laws_heldByteS.mono _ _ _
      | exact laws_heldPendS.mono _ _ _
      | exact LeO.none _
      | refine LeO.ite ?_ ?_
      | refine LeO.bind ?_ (fun _ => ?_)
set_option maxHeartbeats 8000000 in
set_option maxRecDepth 100000 in
theorem laws_heldDisk.calls (k : Nat) (A0_0 : Option Addr) (c0_0 : Nat) (l0_0 : List Int) (A0_1 : Option Addr) (c0_1 : Nat) (l0_1 : List (S79)) (a0_2 : Int) (a0_3 : Bool) (a1 : Int) (r : Int) (w : World) (hr0_0 : Kd.C (Kd.int .u8) w A0_0 l0_0.length l0_0) (hc0_0 : l0_0.length ≤ c0_0) (hr0_1 : Kd.C k79 w A0_1 l0_1.length l0_1) (hc0_1 : l0_1.length ≤ c0_1) (h : laws_heldDisk.f k l0_0 l0_1 a0_2 a0_3 a1 = some r) :
    Calls Try.prog 34 #[.agg #[.slice A0_0 l0_0.length c0_0, .slice A0_1 l0_1.length c0_1, .int .i64 a0_2, .bool a0_3], .int .i64 a1] w fun e w' => e = .returned (.int .i64 r) ∧ Below w.heap.size w w' := by
  have hu25 := Try.underlying25
  have HR0_0 := Aside0.mk hr0_0
  have HC0_0 := Aside0.mk hc0_0
  clear hr0_0 hc0_0
  have HR0_1 := Aside0.mk hr0_1
  have HC0_1 := Aside0.mk hc0_1
  clear hr0_1 hc0_1
  have HB := Aside0.mk (Below.refl w.heap.size w)
  have H : ((laws_heldByteS.f k l0_0 a1).bind fun t504 => (if t504 < 0 then (some (-1)) else ((laws_heldPendS.f k l0_1 t504).bind fun t505 => (if t505 < 0 then (some (-1)) else (some t505))))) = some r := h
  clear h
  replace H := Option.bind_eq_some_iff.mp H
  obtain ⟨t504, A30, H⟩ := H
  replace H : (if t504 < 0 then (some (-1)) else ((laws_heldPendS.f k l0_1 t504).bind fun t505 => (if t505 < 0 then (some (-1)) else (some t505)))) = some r := H
  have A3 := Aside0.mk A30
  clear A30
  by_cases c4 : t504 < 0
  · rw [if_pos c4] at H
    have c4b0 : decide (t504 < 0) = true := decide_eq_true c4
    clear c4
    obtain rfl := Option.some.inj H
    go_enter Try.func34, Try.ntmps34
    go_wp2_with (first | ((with_reducible refine gate_dst (N := 2) rfl ?_); refine box_event ?hg (N := 2) ?hd (cs := #[.slice A0_0 l0_0.length c0_0, .slice A0_1 l0_1.length c0_1, .int .i64 a0_2, .bool a0_3]) (t := 25) ?hr ?_; (case hd => rfl); (case hg => rfl); (case hr => first | (go_simp; done) | (go_simp; rfl)); intro gb503 hg w5 hbox hb; have n0_ := Aside0.mk (below_step (by repeat (first | (with_reducible first | exact HB.out | apply below_alloc | apply pw_below_drewN | apply below_drew1) | exact HB.out)) hb); have n1_ := Aside0.mk (hbox); have n2_ := Aside0.mk ((by rw [hg]; exact (below_size (by repeat (first | (with_reducible first | exact HB.out | apply below_alloc | apply pw_below_drewN | apply below_drew1) | exact HB.out))) : w.heap.size ≤ gb503)); have n3_ := Aside0.mk ((by rw [hg]; exact (below_size (by repeat (first | (with_reducible first | exact HB.out | apply below_alloc | apply pw_below_drewN | apply below_drew1) | exact HB.out))) : w.heap.size ≤ gb503)); clear HB; have HB := n0_; have BK503 := n1_; have GW503 := n2_; have GE503 := n3_; clear n0_ n1_ n2_ n3_; clear hb hbox hg; have hcz6_0 : w5.cell? ⟨gb503, 0, none⟩ = some (.slice A0_0 l0_0.length c0_0) := (blk_cell BK503.out 0).trans rfl; have hcz6_1 : w5.cell? ⟨gb503, 1, none⟩ = some (.slice A0_1 l0_1.length c0_1) := (blk_cell BK503.out 1).trans rfl; have hcz6_2 : w5.cell? ⟨gb503, 2, none⟩ = some (.int .i64 a0_2) := (blk_cell BK503.out 2).trans rfl; have hcz6_3 : w5.cell? ⟨gb503, 3, none⟩ = some (.bool a0_3) := (blk_cell BK503.out 3).trans rfl; have hfz6_0 := blk_frozen BK503.out 0; have hfz6_1 := blk_frozen BK503.out 1; have hfz6_2 := blk_frozen BK503.out 2; have hfz6_3 := blk_frozen BK503.out 3) | ((with_reducible refine gate_callee (f := 74) rfl ?_); refine goesL_ (some 8) rfl rfl Try.func74 (by kernel_rfl) rfl #[.slice A0_0 l0_0.length c0_0, .int .i64 a1] rfl (by (try simp only [List.map_toArray, List.map_cons, List.map_nil]); first | done | rfl | (simp only [List.length_drop, List.length_take]; rfl)) ?_; (with_reducible refine (laws_heldByteS.calls k _ _ l0_0 a1 t504 _ ?side1 ?side2 A3.out).mono ?_); (case side1 => repeat (first | exact (Kd.C_below HR0_0.out HB.out) | (with_reducible refine Kd.C_alloc ?_ _) | (with_reducible refine Kd.C_drewN ?_ _) | (with_reducible refine Kd.C_drew ?_))); (case side2 => exact HC0_0.out); rintro e w' ⟨rfl, ⟨nd, rfl⟩⟩; refine ⟨_, rfl, ?_⟩))
    go_ret
    exact ⟨by first | rfl | (simp [errW_none, errW_some] <;> rfl) | (simp [*, errW_none, errW_some] <;> rfl), by repeat (first | (with_reducible first | exact HB.out | apply below_alloc | apply pw_below_drewN | apply below_drew1 | refine below_set ?_ GE503.out) | exact HB.out)⟩
  · rw [if_neg c4] at H
    have c4b0 : decide (t504 < 0) = false := decide_eq_false c4
    clear c4
    replace H := Option.bind_eq_some_iff.mp H
    obtain ⟨t505, A70, H⟩ := H
    replace H : (if t505 < 0 then (some (-1)) else (some t505)) = some r := H
    have A7 := Aside0.mk A70
    clear A70
    by_cases c8 : t505 < 0
    · rw [if_pos c8] at H
      have c8b0 : decide (t505 < 0) = true := decide_eq_true c8
      clear c8
      obtain rfl := Option.some.inj H
      go_enter Try.func34, Try.ntmps34
      go_wp2_with (first | ((with_reducible refine gate_dst (N := 2) rfl ?_); refine box_event ?hg (N := 2) ?hd (cs := #[.slice A0_0 l0_0.length c0_0, .slice A0_1 l0_1.length c0_1, .int .i64 a0_2, .bool a0_3]) (t := 25) ?hr ?_; (case hd => rfl); (case hg => rfl); (case hr => first | (go_simp; done) | (go_simp; rfl)); intro gb503 hg w9 hbox hb; have n0_ := Aside0.mk (below_step (by repeat (first | (with_reducible first | exact HB.out | apply below_alloc | apply pw_below_drewN | apply below_drew1) | exact HB.out)) hb); have n1_ := Aside0.mk (hbox); have n2_ := Aside0.mk ((by rw [hg]; exact (below_size (by repeat (first | (with_reducible first | exact HB.out | apply below_alloc | apply pw_below_drewN | apply below_drew1) | exact HB.out))) : w.heap.size ≤ gb503)); have n3_ := Aside0.mk ((by rw [hg]; exact (below_size (by repeat (first | (with_reducible first | exact HB.out | apply below_alloc | apply pw_below_drewN | apply below_drew1) | exact HB.out))) : w.heap.size ≤ gb503)); clear HB; have HB := n0_; have BK503 := n1_; have GW503 := n2_; have GE503 := n3_; clear n0_ n1_ n2_ n3_; clear hb hbox hg; have hcz10_0 : w9.cell? ⟨gb503, 0, none⟩ = some (.slice A0_0 l0_0.length c0_0) := (blk_cell BK503.out 0).trans rfl; have hcz10_1 : w9.cell? ⟨gb503, 1, none⟩ = some (.slice A0_1 l0_1.length c0_1) := (blk_cell BK503.out 1).trans rfl; have hcz10_2 : w9.cell? ⟨gb503, 2, none⟩ = some (.int .i64 a0_2) := (blk_cell BK503.out 2).trans rfl; have hcz10_3 : w9.cell? ⟨gb503, 3, none⟩ = some (.bool a0_3) := (blk_cell BK503.out 3).trans rfl; have hfz10_0 := blk_frozen BK503.out 0; have hfz10_1 := blk_frozen BK503.out 1; have hfz10_2 := blk_frozen BK503.out 2; have hfz10_3 := blk_frozen BK503.out 3) | ((with_reducible refine gate_callee (f := 74) rfl ?_); refine goesL_ (some 8) rfl rfl Try.func74 (by kernel_rfl) rfl #[.slice A0_0 l0_0.length c0_0, .int .i64 a1] rfl (by (try simp only [List.map_toArray, List.map_cons, List.map_nil]); first | done | rfl | (simp only [List.length_drop, List.length_take]; rfl)) ?_; (with_reducible refine (laws_heldByteS.calls k _ _ l0_0 a1 t504 _ ?side1 ?side2 A3.out).mono ?_); (case side1 => repeat (first | exact (Kd.C_below HR0_0.out HB.out) | (with_reducible refine Kd.C_alloc ?_ _) | (with_reducible refine Kd.C_drewN ?_ _) | (with_reducible refine Kd.C_drew ?_))); (case side2 => exact HC0_0.out); rintro e w' ⟨rfl, ⟨nd, rfl⟩⟩; refine ⟨_, rfl, ?_⟩) | ((with_reducible refine gate_callee (f := 83) rfl ?_); refine goesL_ (some 14) rfl rfl Try.func83 (by kernel_rfl) rfl #[.slice A0_1 l0_1.length c0_1, .int .i64 t504] rfl (by (try simp only [List.map_toArray, List.map_cons, List.map_nil]); first | done | rfl | (simp only [List.length_drop, List.length_take]; rfl)) ?_; (with_reducible refine (laws_heldPendS.calls k _ _ l0_1 t504 t505 _ ?side1 ?side2 A7.out).mono ?_); (case side1 => repeat (first | exact (Kd.C_below HR0_1.out (by repeat (first | (with_reducible first | exact HB.out | apply below_alloc | apply pw_below_drewN | apply below_drew1 | refine below_set ?_ GE503.out) | exact HB.out))) | (with_reducible refine Kd.C_alloc ?_ _) | (with_reducible refine Kd.C_drewN ?_ _) | (with_reducible refine Kd.C_drew ?_))); (case side2 => exact HC0_1.out); rintro e w' ⟨rfl, ⟨nd, rfl⟩⟩; refine ⟨_, rfl, ?_⟩))
      go_ret
      exact ⟨by first | rfl | (simp [errW_none, errW_some] <;> rfl) | (simp [*, errW_none, errW_some] <;> rfl), by repeat (first | (with_reducible first | exact HB.out | apply below_alloc | apply pw_below_drewN | apply below_drew1 | refine below_set ?_ GE503.out) | exact HB.out)⟩
    · rw [if_neg c8] at H
      have c8b0 : decide (t505 < 0) = false := decide_eq_false c8
      clear c8
      obtain rfl := Option.some.inj H
      go_enter Try.func34, Try.ntmps34
      go_wp2_with (first | ((with_reducible refine gate_dst (N := 2) rfl ?_); refine box_event ?hg (N := 2) ?hd (cs := #[.slice A0_0 l0_0.length c0_0, .slice A0_1 l0_1.length c0_1, .int .i64 a0_2, .bool a0_3]) (t := 25) ?hr ?_; (case hd => rfl); (case hg => rfl); (case hr => first | (go_simp; done) | (go_simp; rfl)); intro gb503 hg w11 hbox hb; have n0_ := Aside0.mk (below_step (by repeat (first | (with_reducible first | exact HB.out | apply below_alloc | apply pw_below_drewN | apply below_drew1) | exact HB.out)) hb); have n1_ := Aside0.mk (hbox); have n2_ := Aside0.mk ((by rw [hg]; exact (below_size (by repeat (first | (with_reducible first | exact HB.out | apply below_alloc | apply pw_below_drewN | apply below_drew1) | exact HB.out))) : w.heap.size ≤ gb503)); have n3_ := Aside0.mk ((by rw [hg]; exact (below_size (by repeat (first | (with_reducible first | exact HB.out | apply below_alloc | apply pw_below_drewN | apply below_drew1) | exact HB.out))) : w.heap.size ≤ gb503)); clear HB; have HB := n0_; have BK503 := n1_; have GW503 := n2_; have GE503 := n3_; clear n0_ n1_ n2_ n3_; clear hb hbox hg; have hcz12_0 : w11.cell? ⟨gb503, 0, none⟩ = some (.slice A0_0 l0_0.length c0_0) := (blk_cell BK503.out 0).trans rfl; have hcz12_1 : w11.cell? ⟨gb503, 1, none⟩ = some (.slice A0_1 l0_1.length c0_1) := (blk_cell BK503.out 1).trans rfl; have hcz12_2 : w11.cell? ⟨gb503, 2, none⟩ = some (.int .i64 a0_2) := (blk_cell BK503.out 2).trans rfl; have hcz12_3 : w11.cell? ⟨gb503, 3, none⟩ = some (.bool a0_3) := (blk_cell BK503.out 3).trans rfl; have hfz12_0 := blk_frozen BK503.out 0; have hfz12_1 := blk_frozen BK503.out 1; have hfz12_2 := blk_frozen BK503.out 2; have hfz12_3 := blk_frozen BK503.out 3) | ((with_reducible refine gate_callee (f := 74) rfl ?_); refine goesL_ (some 8) rfl rfl Try.func74 (by kernel_rfl) rfl #[.slice A0_0 l0_0.length c0_0, .int .i64 a1] rfl (by (try simp only [List.map_toArray, List.map_cons, List.map_nil]); first | done | rfl | (simp only [List.length_drop, List.length_take]; rfl)) ?_; (with_reducible refine (laws_heldByteS.calls k _ _ l0_0 a1 t504 _ ?side1 ?side2 A3.out).mono ?_); (case side1 => repeat (first | exact (Kd.C_below HR0_0.out HB.out) | (with_reducible refine Kd.C_alloc ?_ _) | (with_reducible refine Kd.C_drewN ?_ _) | (with_reducible refine Kd.C_drew ?_))); (case side2 => exact HC0_0.out); rintro e w' ⟨rfl, ⟨nd, rfl⟩⟩; refine ⟨_, rfl, ?_⟩) | ((with_reducible refine gate_callee (f := 83) rfl ?_); refine goesL_ (some 14) rfl rfl Try.func83 (by kernel_rfl) rfl #[.slice A0_1 l0_1.length c0_1, .int .i64 t504] rfl (by (try simp only [List.map_toArray, List.map_cons, List.map_nil]); first | done | rfl | (simp only [List.length_drop, List.length_take]; rfl)) ?_; (with_reducible refine (laws_heldPendS.calls k _ _ l0_1 t504 t505 _ ?side1 ?side2 A7.out).mono ?_); (case side1 => repeat (first | exact (Kd.C_below HR0_1.out (by repeat (first | (with_reducible first | exact HB.out | apply below_alloc | apply pw_below_drewN | apply below_drew1 | refine below_set ?_ GE503.out) | exact HB.out))) | (with_reducible refine Kd.C_alloc ?_ _) | (with_reducible refine Kd.C_drewN ?_ _) | (with_reducible refine Kd.C_drew ?_))); (case side2 => exact HC0_1.out); rintro e w' ⟨rfl, ⟨nd, rfl⟩⟩; refine ⟨_, rfl, ?_⟩))
      go_ret
      exact ⟨by first | rfl | (simp [errW_none, errW_some] <;> rfl) | (simp [*, errW_none, errW_some] <;> rfl), by repeat (first | (with_reducible first | exact HB.out | apply below_alloc | apply pw_below_drewN | apply below_drew1 | refine below_set ?_ GE503.out) | exact HB.out)⟩

/-! ### L_markBytes: a text by hand -/
theorem rd_mid (pre : List Int) (x : Int) (rest : List Int) : rd (pre ++ x :: rest) (pre.length : Int) = x := by unfold rd; rw [Int.toNat_natCast, List.getD_eq_getElem?_getD, List.getElem?_append_right (Nat.le_refl _)]; simp
theorem set_mid {α : Type} (pre : List α) (x y : α) (rest : List α) : (pre ++ x :: rest).set (pre.length : Int).toNat y = (pre ++ [y]) ++ rest := by rw [Int.toNat_natCast, List.set_append_right _ _ (Nat.le_refl _)]; simp
def mkB : Int → List Int → List Int
  | _, [] => []
  | k, _ :: xs => k % 256 :: mkB (k + 1) xs
theorem mkB_len (k : Int) (l : List Int) : (mkB k l).length = l.length := by induction l generalizing k with
  | nil => rfl
  | cons x xs ih => simp [mkB, ih]
theorem markB_loop (rest : List Int) : ∀ (pre : List Int) (k : Int), 0 ≤ k → k + rest.length ≤ 4611686018427387904 → pre.length + rest.length ≤ 4611686018427387904 →
    Ev (fun K => laws_markByteS.l0 K (pre ++ rest) k (pre.length : Int)) (k + rest.length, pre ++ mkB k rest) := by
  induction rest with
  | nil => intro pre k _ _ _; exact Ev.step (fun K => by simp only [laws_markByteS.l0]; rw [if_neg (by simp)]) (by simpa [mkB] using Ev.now _)
  | cons x xs ih =>
    intro pre k h0 h1 h2
    simp only [List.length_cons] at h1 h2
    have ih' := ih (pre ++ [k % 256]) (k + 1) (by omega) (by omega) (by simp; omega)
    rw [show ((pre ++ [k % 256]).length : Int) = wrap64 ((pre.length : Int) + 1) by simp; unfold wrap64; omega] at ih'
    have e : (k + 1 + (xs.length : Int), pre ++ [k % 256] ++ mkB (k + 1) xs) = (k + ((x :: xs).length : Int), pre ++ mkB k (x :: xs)) := by simp [mkB]; omega
    rw [e] at ih'
    exact Ev.step (fun K => by simp only [laws_markByteS.l0]; rw [if_pos (by simp; omega), if_pos (by omega), set_mid, show wrap64 (k + 1) = k + 1 by unfold wrap64; omega]) ih'
theorem markByteS_ev (l : List Int) (k : Int) (h0 : 0 ≤ k) (h1 : k + l.length ≤ 4611686018427387904) : Ev (fun K => laws_markByteS.f K l k) (k + l.length, mkB k l) :=
  markB_loop l [] k h0 h1 (by simp; omega)
theorem heldB_loop (rest : List Int) : ∀ (pre : List Int) (k : Int), 0 ≤ k → k + rest.length ≤ 4611686018427387904 → pre.length + rest.length ≤ 4611686018427387904 →
    Ev (fun K => laws_heldByteS.l0 K (pre ++ mkB k rest) k (pre.length : Int)) (k + rest.length) := by
  induction rest with
  | nil => intro pre k _ _ _; exact Ev.step (fun K => by simp only [laws_heldByteS.l0]; rw [if_neg (by simp [mkB])]) (by simpa using Ev.now _)
  | cons x xs ih =>
    intro pre k h0 h1 h2
    simp only [List.length_cons] at h1 h2
    have ih' := ih (pre ++ [k % 256]) (k + 1) (by omega) (by omega) (by simp; omega)
    rw [show ((pre ++ [k % 256]).length : Int) = wrap64 ((pre.length : Int) + 1) by simp; unfold wrap64; omega, List.append_assoc] at ih'
    have e : (k + 1 + (xs.length : Int)) = k + ((x :: xs).length : Int) := by simp; omega
    rw [e] at ih'
    rw [show mkB k (x :: xs) = k % 256 :: mkB (k + 1) xs from rfl]
    exact Ev.step (fun K => by simp only [laws_heldByteS.l0]; rw [if_pos (by simp [mkB_len]; omega), rd_mid, if_pos rfl, show wrap64 (k + 1) = k + 1 by unfold wrap64; omega]; rfl) ih'
theorem heldByteS_ev (l : List Int) (k : Int) (h0 : 0 ≤ k) (h1 : k + l.length ≤ 4611686018427387904) : Ev (fun K => laws_heldByteS.f K (mkB k l) k) (k + l.length) :=
  heldB_loop l [] k h0 h1 (by simp; omega)

/-! ### laws_markPendS: a text by hand -/
def laws_markPendS.l0 : Nat → List (S79) → Int → Int → Option (Int × List (S79))
  | 0, _, _, _ => none
  | k + 1, x0, x1, x5 => if x5 < (x0.length : Int) then (if 0 ≤ x5 then ((laws_markByteS.f k (rd_T79 x0 x5).f1 (wrap64 (x1 + 1))).bind fun b => laws_markPendS.l0 k (x0.set (x5 : Int).toNat (⟨x1, b.2⟩ : S79)) b.1 (wrap64 (x5 + 1))) else none) else some (x1, x0)
def laws_markPendS.f (k : Nat) (l0 : List (S79)) (a1 : Int) : Option (Int × List (S79)) := laws_markPendS.l0 k l0 a1 0
theorem pend_inner {W : World} {base g n cap : Nat} {ok : Nat → Prop} {xs : List S79} (h : Kd.S k79 79 W base ok (.slice (some ⟨g, 0, none⟩) n cap) xs) (i : Int) (h0 : 0 ≤ i) (h1 : i < xs.length) :
    ∃ (vd : Value) (oki : Nat → Prop), W.cell? ⟨g, i.toNat * 2 + 1, none⟩ = some vd ∧ Kd.R (Kd.int .u8) 5 W base oki vd (rd_T79 xs i).f1 ∧ (∀ k, oki k → ok k ∧ k ≠ g) ∧
      ∀ (W' : World) (l' : List Int) (ok' : Nat → Prop), (∀ k, k < W.heap.size → ¬ (some k = vd.ownBlock) → W'.heap[k]? = W.heap[k]?) → Kd.R (Kd.int .u8) 5 W' base ok' vd l' →
        Kd.S k79 79 W' base ok (.slice (some ⟨g, 0, none⟩) n cap) (xs.set i.toNat ⟨(rd_T79 xs i).f0, l'⟩) := by
  have hn := (Kd.S_reads' h).1
  obtain ⟨oki, c, hcl, hM, hcc, _, hoki, hH⟩ := Kd.S_elem h z79 i h0 (by omega)
  obtain ⟨vd, rfl, gd⟩ := k79_openM hM
  refine ⟨vd, oki, hcc 1 _ rfl, gd, hoki, fun W' l' ok' hk hR => ?_⟩
  have hH' := Kd.H_step hH (w1 := W') (fun k _ hn hlt => hk k hlt (fun he => hn (gd.1 k he.symm)))
  exact Kd.H_back hH' (k79_mkM W' base oki ⟨(rd_T79 xs i).f0, l'⟩ (Kd.R_reok rfl hR (fun k hk => gd.1 k hk))) (fun _ hk => hk)
theorem rdset {xs : List S79} {i : Int} {x : S79} (h0 : 0 ≤ i) (h1 : i < xs.length) : rd_T79 (xs.set i.toNat x) i = x := by
  unfold rd_T79
  rw [List.getD_eq_getElem?_getD, List.getElem?_set_self (by omega)]
  rfl
set_option maxHeartbeats 8000000 in
set_option maxRecDepth 100000 in
theorem laws_markPendS.calls (k : Nat) (P0_ : Nat → Prop) (u9000_ : Value) (l0 : List (S79)) (a1 : Int) (r1 : Int) (r2 : List (S79)) (w0 w : World) (hB : Below w0.heap.size w0 w) (ho0 : Kd.S k79 79 w w0.heap.size P0_ u9000_ l0) (h : laws_markPendS.f k l0 a1 = some (r1, r2)) :
    Calls Try.prog 73 #[u9000_, .int .i64 a1] w fun e w' => e = .returned (.int .i64 r1) ∧ Kd.S k79 79 w' w0.heap.size (fun k_ => (P0_ k_ ∨ w.heap.size ≤ k_)) u9000_ r2 ∧ Below w0.heap.size w0 w' ∧ Kept w w' (fun k_ => P0_ k_) := by
  have HO0 := Aside0.mk (show Kd.S k79 79 w w0.heap.size (fun k_ => (P0_ k_ ∨ w.heap.size ≤ k_)) u9000_ l0 from Kd.S_mono ho0 (fun k_ hk => (.inl hk)))
  have HK := Aside0.mk (Kept.refl w (fun k_ => P0_ k_))
  have HW0 := Aside0.mk hB.size
  have HB := Aside0.mk hB
  clear hB
  have H : (laws_markPendS.l0 k l0 a1 0) = some (r1, r2) := h
  clear h
  have H' := Aside0.mk H
  clear H
  go_enter Try.func73, Try.ntmps73
  go_wp2
  go_loopg [1, 5] k (fun kq v1 v5 w' => ∃ (x0_1 : List (S79)) (x1_1 : Int) (x5_1 : Int), v1 = .int .i64 x1_1 ∧ v5 = .int .i64 x5_1 ∧ Aside0 (laws_markPendS.l0 kq x0_1 x1_1 x5_1 = some (r1, r2)) ∧ Aside0 (kq ≤ k) ∧ Aside0 (Kd.S k79 79 w' w0.heap.size (fun k_ => (P0_ k_ ∨ w.heap.size ≤ k_)) u9000_ x0_1) ∧ Aside0 (Kept w w' (fun k_ => P0_ k_)) ∧ Aside0 (Below w0.heap.size w0 w'))
  case atStart => exact ⟨(l0), (a1), (0), (by first | rfl | (simp; done) | (simp [*]; done)), (by first | rfl | (simp; done) | (simp [*]; done)), H', ⟨Nat.le_refl _⟩, ⟨by (with_reducible repeat (first | apply Kd.S_alloc | apply Kd.S_drewN | apply Kd.S_drew)); exact HO0.out⟩, ⟨by repeat (first | (with_reducible first | exact HK.out | apply Kept.alloc | apply Kept.drewN | apply Kept.drew) | exact HK.out)⟩, ⟨by repeat (first | (with_reducible first | exact HB.out | apply below_alloc | apply pw_below_drewN | apply below_drew1) | exact HB.out)⟩⟩
  case round =>
    clear H'
    try clear p2
    obtain ⟨x0_1, x1_1, x5_1, rfl, rfl, HA, HK1, HO_0, HK, HB⟩ := hrel
    cases gk with
    | zero => exact absurd HA.out (by simp [laws_markPendS.l0])
    | succ k1 =>
      have H := HA.out
      clear HA
      simp only [laws_markPendS.l0] at H
      by_cases c3 : x5_1 < (x0_1.length : Int)
      · rw [if_pos c3] at H
        have c3b0 : decide (x5_1 < (x0_1.length : Int)) = true := decide_eq_true c3
        clear c3
        by_cases c4 : 0 ≤ x5_1
        · rw [if_pos c4] at H
          have c4b0 : decide (0 ≤ x5_1) = true := decide_eq_true c4
          clear c4
          replace H := Option.bind_eq_some_iff.mp H
          obtain ⟨⟨b1, b2⟩, HM0, H⟩ := H
          replace H : laws_markPendS.l0 k1 (x0_1.set (x5_1 : Int).toNat (⟨x1_1, b2⟩ : S79)) b1 (wrap64 (x5_1 + 1)) = some (r1, r2) := H
          have HM := Aside0.mk HM0
          clear HM0
          obtain ⟨y128, hy128⟩ : ∃ y_ : List (S79), y_ = (x0_1.set (x5_1 : Int).toNat (⟨x1_1, (rd_T79 x0_1 x5_1).f1⟩ : S79)) := ⟨_, rfl⟩
          have Ny128 := Aside0.mk hy128
          clear hy128
          have H' := Aside0.mk H
          clear H
          obtain ⟨Ao6, co6, eo6⟩ := Kd.S_slice HO_0.out
          subst eo6
          have p5 : 0 ≤ (x5_1 : Int) := of_decide_eq_true (by first | (with_reducible assumption) | assumption)
          have q5 : (x5_1 : Int) < ((x0_1.length : Int) : Int) := of_decide_eq_true (by first | (with_reducible assumption) | assumption)
          obtain ⟨go5, co5, eo5, gb5, gl5, cl5, HG5⟩ := Kd.S_form HO_0.out (by omega)
          (first | cases eo5 | (injection eo5 with ea_ en_ ec_; (first | subst ea_ | (injection ea_ with ea_; subst ea_)); subst ec_; clear en_))
          have GB5 := Aside0.mk gb5
          have GG5 := Aside0.mk HG5
          clear gb5 gl5 HG5
          have HMgo5 := Aside0.mk (show (P0_ go5 ∨ w.heap.size ≤ go5) from ((Kd.S_R HO_0.out).1 _ rfl))
          obtain ⟨_, ce5, hcl5, hM5, hcc5, hfr5, _, _⟩ := Kd.S_elem HO_0.out z79 (x5_1 : Int) p5 q5
          obtain ⟨ve5_1, rfl, ge5_1⟩ := k79_openM hM5
          have hx5_0 : wr.cell? ⟨go5, (x5_1 : Int).toNat * 2, none⟩ = some (.int .i64 ((rd_T79 x0_1 x5_1).f0)) := hcc5 0 _ rfl
          have hx5_1 : wr.cell? ⟨go5, (x5_1 : Int).toNat * 2 + 1, none⟩ = some (ve5_1) := hcc5 1 _ rfl
          have hf5_0 : wr.frozen? ⟨go5, (x5_1 : Int).toNat * 2, none⟩ = false := hfr5 0
          have hf5_1 : wr.frozen? ⟨go5, (x5_1 : Int).toNat * 2 + 1, none⟩ = false := hfr5 1
          clear hcl5 hcc5 hfr5 hM5
          replace p5 := eq_true p5
          replace q5 := eq_true q5
          have HX7 := Aside0.mk (show Kd.S k79 79 wr w0.heap.size (fun k_ => ((fun k_ => (P0_ k_ ∨ w.heap.size ≤ k_))) k_ ∧ ¬ ((fun _ => False)) k_) (.slice (some ⟨go5, 0, none⟩) x0_1.length co6) x0_1 from (by (with_reducible repeat (first | apply Kd.S_alloc | apply Kd.S_drewN | apply Kd.S_drew)); exact Kd.S_mono HO_0.out (fun k_ hk => ⟨hk, fun e_ => e_⟩)))
          obtain ⟨oki7, ce7, hcl7, hM7, hcc7, hfr7, hoki7, hH7⟩ := Kd.S_elem HX7.out z79 (x5_1 : Int) (of_decide_eq_true (by first | (with_reducible assumption) | assumption)) (by have h_ : (x5_1 : Int) < ((x0_1.length : Int) : Int) := of_decide_eq_true (by first | (with_reducible assumption) | assumption); first | exact h_ | (have e_ := (Kd.S_reads' HO_0.out).1; omega) | simpa using h_)
          obtain ⟨ve7_1, rfl, ge7_1⟩ := k79_openM hM7
          have HP7 := Kd.S_seg hH7 (of_decide_eq_true (by first | (with_reducible assumption) | assumption)) (by have h_ : (x5_1 : Int) < ((x0_1.length : Int) : Int) := of_decide_eq_true (by first | (with_reducible assumption) | assumption); first | exact h_ | (have e_ := (Kd.S_reads' HO_0.out).1; omega) | simpa using h_) (seg := [.int .i64 x1_1]) (j := 0) (show 1 ≤ 2 from by decide) (x' := (⟨x1_1, (rd_T79 x0_1 x5_1).f1⟩ : S79)) (k79_mkM _ _ _ (⟨x1_1, (rd_T79 x0_1 x5_1).f1⟩ : S79) (Kd.R_mono ge7_1 (fun _ h_ => Or.inl h_))) (fun _ hk => hk) (fun k_ hk_ => hk_.elim)
          have hx7_0 := hcc7 0 _ rfl
          (try simp only [show (k79).sz = 2 from rfl, Nat.mul_one, Nat.add_zero] at hx7_0)
          have hf7_0 := hfr7 0
          (try simp only [show (k79).sz = 2 from rfl, Nat.mul_one, Nat.add_zero] at hf7_0)
          clear hcl7 hcc7 hfr7 hM7 hoki7 hH7
          go_wp2_with (first | ((with_reducible refine gate_store (t := 2) (p := 16) rfl ?_); refine store_event (t := 2) (p := 16) (v := ?vo_w8) (w1 := (wr.setCell ⟨go5, (x5_1 : Int).toNat * 2, none⟩ (.int .i64 x1_1))) ?hg ?ho ?hn ?hr ?_; (case ho => rfl); (case hg => rfl); (case hn => rfl); (case hr => first | (go_simp; done) | (go_simp; rfl)); intro w8 hw; have hg : wr.grownBy w8 (some go5) := (by rw [hw]; exact HP7.2); have hp_ : Kd.S k79 79 w8 w0.heap.size (fun k_ => (P0_ k_ ∨ w.heap.size ≤ k_)) (.slice (some ⟨go5, 0, none⟩) x0_1.length co6) y128 := (by rw [hw, Ny128.out]; exact HP7.1); clear HP7; have n0_ := Aside0.mk (hp_); have n1_ := Aside0.mk ((by rw [hw]; exact below_set (HB.out) GB5.out : Below w0.heap.size w0 w8)); have n2_ := Aside0.mk (Kept.of_grown (S := (fun k_ => P0_ k_)) hg (by repeat (first | (with_reducible first | exact HK.out | apply Kept.alloc | apply Kept.drewN | apply Kept.drew) | exact HK.out)) (fun k_ e_ => ((Kd.S_R HO_0.out).1 k_ e_))); clear HO_0; clear HB; clear HK; have HO_0 := n0_; have HB := n1_; have HK := n2_; clear n0_ n1_ n2_; clear hg hw hp_; (have ex0 := Aside0.mk (show rd_T79 y128 x5_1 = ⟨x1_1, (rd_T79 x0_1 x5_1).f1⟩ from by rw [Ny128.out]; exact rdset (of_decide_eq_true c4b0) (of_decide_eq_true c3b0))); (have hl_ : x0_1.length = y128.length := by rw [Ny128.out, List.length_set]); (obtain ⟨vd, oki, hx8, gd, hoki, hback⟩ := pend_inner HO_0.out x5_1 (of_decide_eq_true c4b0) (by have := of_decide_eq_true c3b0; omega)); clear hl_))
          rw [ex0.out] at gd
          refine (laws_markByteS.calls k1 (fun k_ => some k_ = vd.ownBlock) vd _ _ b1 b2 w0 w8 HB.out (Kd.R_tight rfl gd) HM.out).mono ?_
          rintro e w9 ⟨rfl, hR, hB9, hK9⟩
          have n0_ := Aside0.mk hB9
          have n1_ := Aside0.mk (show Kept w w9 (fun k_ => P0_ k_) from ⟨Nat.le_trans HK.out.1 hK9.1, fun j hj hn => (hK9.2 j (Nat.lt_of_lt_of_le hj HK.out.1) (fun he => ((hoki j (gd.1 j he.symm)).1).elim hn (fun h2 => absurd h2 (Nat.not_le.2 hj)))).trans (HK.out.2 j hj hn)⟩)
          have hS := hback w9 b2 _ (fun k hlt hn => hK9.2 k hlt hn) hR
          rw [ex0.out, Ny128.out, List.set_set] at hS
          have n2_ := Aside0.mk hS
          clear hR hB9 hK9 hS hback hoki gd ex0 HO_0 HB HK
          have HB := n0_
          have HK := n1_
          have HO_0 := n2_
          clear n0_ n1_ n2_ HX7 Ny128

          go_wp2
          go_roundg k1
          case measure => have := HK1.out; omega
          case rel => exact ⟨_, _, _, rfl, rfl, H', ⟨by have := HK1.out; omega⟩, HO_0, HK, HB⟩
        · rw [if_neg c4] at H
          exact absurd H (by simp)
      · rw [if_neg c3] at H
        have c3b0 : decide (x5_1 < (x0_1.length : Int)) = false := decide_eq_false c3
        clear c3
        simp only [Option.some.injEq, Prod.mk.injEq] at H
        obtain ⟨rfl, rfl⟩ := H
        obtain ⟨Ao9, co9, eo9⟩ := Kd.S_slice HO_0.out
        subst eo9
        go_wp2
        go_ret
        exact ⟨by first | rfl | (simp [errW_none, errW_some] <;> rfl) | (simp [*, errW_none, errW_some] <;> rfl), by (with_reducible repeat (first | apply Kd.S_alloc | apply Kd.S_drewN | apply Kd.S_drew)); exact HO_0.out, by repeat (first | (with_reducible first | exact HB.out | apply below_alloc | apply pw_below_drewN | apply below_drew1) | exact HB.out), by repeat (first | (with_reducible first | exact HK.out | apply Kept.alloc | apply Kept.drewN | apply Kept.drew) | exact HK.out)⟩

/-! ### L_markDisk: a text by hand -/
def mkP : Int → List S79 → Int × List S79
  | k, [] => (k, [])
  | k, x :: xs => ((mkP (k + 1 + x.f1.length) xs).1, ⟨k, mkB (k + 1) x.f1⟩ :: (mkP (k + 1 + x.f1.length) xs).2)
theorem mkP_bd (l : List S79) (hl : ∀ x ∈ l, x.f1.length ≤ 1048576) : ∀ k : Int, k ≤ (mkP k l).1 ∧ (mkP k l).1 ≤ k + 1048577 * l.length := by
  induction l with
  | nil => intro k; simp [mkP]
  | cons x xs ih =>
    intro k
    have h := ih (fun y hy => hl y (List.mem_cons_of_mem _ hy)) (k + 1 + x.f1.length)
    have hx := hl x List.mem_cons_self
    simp only [mkP, List.length_cons]
    omega
theorem mkP_len (k : Int) (l : List S79) : (mkP k l).2.length = l.length := by induction l generalizing k with
  | nil => rfl
  | cons x xs ih => simp [mkP, ih]
theorem rd_midP (pre : List S79) (x : S79) (rest : List S79) : rd_T79 (pre ++ x :: rest) (pre.length : Int) = x := by unfold rd_T79; rw [Int.toNat_natCast, List.getD_eq_getElem?_getD, List.getElem?_append_right (Nat.le_refl _)]; simp
theorem markP_loop (rest : List S79) (hl : ∀ x ∈ rest, x.f1.length ≤ 1048576) : ∀ (pre : List S79) (k : Int), 0 ≤ k → k + 1048577 * rest.length ≤ 4611686018427387904 → pre.length + rest.length ≤ 4611686018427387904 →
    Ev (fun K => laws_markPendS.l0 K (pre ++ rest) k (pre.length : Int)) ((mkP k rest).1, pre ++ (mkP k rest).2) := by
  induction rest with
  | nil => intro pre k _ _ _; exact Ev.step (fun K => by simp only [laws_markPendS.l0]; rw [if_neg (by simp)]) (by simpa [mkP] using Ev.now _)
  | cons x xs ih =>
    intro pre k h0 h1 h2
    have hx := hl x List.mem_cons_self
    simp only [List.length_cons] at h1 h2
    have ih' := ih (fun y hy => hl y (List.mem_cons_of_mem _ hy)) (pre ++ [⟨k, mkB (k + 1) x.f1⟩]) (k + 1 + x.f1.length) (by omega) (by omega) (by simp; omega)
    rw [show ((pre ++ [(⟨k, mkB (k + 1) x.f1⟩ : S79)]).length : Int) = wrap64 ((pre.length : Int) + 1) by simp; unfold wrap64; omega] at ih'
    have e : ((mkP (k + 1 + x.f1.length) xs).1, pre ++ [(⟨k, mkB (k + 1) x.f1⟩ : S79)] ++ (mkP (k + 1 + x.f1.length) xs).2) = ((mkP k (x :: xs)).1, pre ++ (mkP k (x :: xs)).2) := by simp [mkP]
    rw [e] at ih'
    refine Ev.step (fun K => by simp only [laws_markPendS.l0]; rw [if_pos (by simp; omega), if_pos (by omega), rd_midP, show wrap64 (k + 1) = k + 1 by unfold wrap64; omega]) (Ev.bind (markByteS_ev x.f1 (k + 1) (by omega) (by omega)) ?_)
    exact Ev.congr (fun K => by rw [set_mid]) ih'
theorem markPendS_ev (l : List S79) (hl : ∀ x ∈ l, x.f1.length ≤ 1048576) (k : Int) (h0 : 0 ≤ k) (h1 : k + 1048577 * l.length ≤ 4611686018427387904) : Ev (fun K => laws_markPendS.f K l k) (mkP k l) :=
  markP_loop l hl [] k h0 h1 (by simp; omega)
theorem heldP_loop (rest : List S79) (hl : ∀ x ∈ rest, x.f1.length ≤ 1048576) : ∀ (pre : List S79) (k : Int), 0 ≤ k → k + 1048577 * rest.length ≤ 4611686018427387904 → pre.length + rest.length ≤ 4611686018427387904 →
    Ev (fun K => laws_heldPendS.l0 K (pre ++ (mkP k rest).2) k (pre.length : Int)) (mkP k rest).1 := by
  induction rest with
  | nil => intro pre k _ _ _; exact Ev.step (fun K => by simp only [laws_heldPendS.l0]; rw [if_neg (by simp [mkP])]) (by simpa [mkP] using Ev.now _)
  | cons x xs ih =>
    intro pre k h0 h1 h2
    have hx := hl x List.mem_cons_self
    simp only [List.length_cons] at h1 h2
    have ih' := ih (fun y hy => hl y (List.mem_cons_of_mem _ hy)) (pre ++ [⟨k, mkB (k + 1) x.f1⟩]) (k + 1 + x.f1.length) (by omega) (by omega) (by simp; omega)
    rw [show ((pre ++ [(⟨k, mkB (k + 1) x.f1⟩ : S79)]).length : Int) = wrap64 ((pre.length : Int) + 1) by simp; unfold wrap64; omega, List.append_assoc] at ih'
    have hb := heldByteS_ev x.f1 (k + 1) (by omega) (by omega)
    rw [show (mkP k (x :: xs)).2 = ⟨k, mkB (k + 1) x.f1⟩ :: (mkP (k + 1 + x.f1.length) xs).2 from rfl, show (mkP k (x :: xs)).1 = (mkP (k + 1 + x.f1.length) xs).1 from rfl]
    refine Ev.step (fun K => by simp only [laws_heldPendS.l0]; rw [if_pos (by simp [mkP_len]; omega), rd_midP, if_pos rfl, show wrap64 (k + 1) = k + 1 by unfold wrap64; omega, if_pos (by omega)]) (Ev.bind hb ?_)
    exact Ev.congr (fun K => by rw [if_neg (by omega)]; rfl) ih'
theorem heldPendS_ev (l : List S79) (hl : ∀ x ∈ l, x.f1.length ≤ 1048576) (k : Int) (h0 : 0 ≤ k) (h1 : k + 1048577 * l.length ≤ 4611686018427387904) : Ev (fun K => laws_heldPendS.f K (mkP k l).2 k) (mkP k l).1 :=
  heldP_loop l hl [] k h0 h1 (by simp; omega)
theorem heldDisk_ev (l0 : List Int) (l1 : List S79) (a2 : Int) (a3 : Bool) (h0 : l0.length ≤ 1048576) (hl : okPendS l1) : Ev (fun K => laws_heldDisk.f K (mkB 1 l0) (mkP (1 + l0.length) l1).2 a2 a3 1) (mkP (1 + l0.length) l1).1 := by
  have h1 := hl.1
  have hb := mkP_bd l1 hl.2 (1 + l0.length)
  unfold laws_heldDisk.f
  refine Ev.bind (heldByteS_ev l0 1 (by omega) (by omega)) ?_
  refine Ev.congr (fun K => by rw [if_neg (by omega)]) (Ev.bind (heldPendS_ev l1 hl.2 _ (by omega) (by omega)) ?_)
  exact Ev.congr (fun K => by rw [if_neg (by omega)]) (Ev.now _)

/-! ### L_overEq: a text by hand -/
theorem over_eq (l : List Int) (s : Int) (d : List Int) (h0 : 0 ≤ s) (h1 : s * 64 + d.length ≤ l.length) (h2 : l.length ≤ 65599) : spec_l1Over.f l s d = some (ovr l s d) := by
  have e1 : wrap64 (s * 64) = s * 64 := by unfold wrap64; omega
  have e2 : wrap64 (s * 64 + (d.length : Int)) = s * 64 + d.length := by unfold wrap64; omega
  unfold spec_l1Over.f
  simp only [Option.bind_some, List.nil_append, List.length_nil, Nat.zero_add, e1, e2]
  rw [if_pos (by omega), if_pos (by omega), if_pos (by rw [List.length_take]; omega), if_pos (by rw [List.length_take]; omega), if_pos (by omega), if_pos (by omega), if_pos (by simp; omega)]
  unfold ovr
  rw [List.append_assoc, show (s * 64 + (d.length : Int)).toNat = (s * 64).toNat + d.length by omega]

/-! ### L_set4: a text by hand -/
section
variable {α : Type} {d : Kd α} {e base g t : Nat} {w : World} {ok : Nat → Prop} {v p q r s p' q' r' s' : Value} {xs : List α}
theorem R_set4 (h : d.R e w base ok v xs) (hb : w.heap[g]? = some (.cells #[p, q, r, s] t (0, 0))) (ht : ∀ q, q ∈ e :: d.E → q ≠ t) :
    d.R e ((((w.setCell ⟨g, 0, none⟩ p').setCell ⟨g, 1, none⟩ q').setCell ⟨g, 2, none⟩ r').setCell ⟨g, 3, none⟩ s') base ok v xs :=
  Kd.R_set (Kd.R_set (Kd.R_set (Kd.R_set h hb ht 0 p') (blk_put hb 0 p' rfl) ht 1 q') (blk_put (blk_put hb 0 p' rfl) 1 q' rfl) ht 2 r') (blk_put (blk_put (blk_put hb 0 p' rfl) 1 q' rfl) 2 r' rfl) ht 3 s'
theorem S_set4 (h : Kd.S d e w base ok v xs) (hb : w.heap[g]? = some (.cells #[p, q, r, s] t (0, 0))) (ht : ∀ q, q ∈ e :: d.E → q ≠ t) :
    Kd.S d e ((((w.setCell ⟨g, 0, none⟩ p').setCell ⟨g, 1, none⟩ q').setCell ⟨g, 2, none⟩ r').setCell ⟨g, 3, none⟩ s') base ok v xs :=
  Kd.S_set (Kd.S_set (Kd.S_set (Kd.S_set h hb ht 0 p') (blk_put hb 0 p' rfl) ht 1 q') (blk_put (blk_put hb 0 p' rfl) 1 q' rfl) ht 2 r') (blk_put (blk_put (blk_put hb 0 p' rfl) 1 q' rfl) 2 r' rfl) ht 3 s'
theorem below_set4 {B : Nat} {w0 : World} (h : Below B w0 w) (hg : B ≤ g) : Below B w0 ((((w.setCell ⟨g, 0, none⟩ p').setCell ⟨g, 1, none⟩ q').setCell ⟨g, 2, none⟩ r').setCell ⟨g, 3, none⟩ s') :=
  below_setB (below_setB (below_setB (below_setB h hg _ _) hg _ _) hg _ _) hg _ _
end

/-! ### L_specSync: a text by hand -/
theorem specCopy_loop (l0 : List Int) (l1 : List S79) (a2 : Int) (a3 : Bool) (hok : okPendS l1) : ∀ (d i : Nat), i + d = l1.length → Ev (fun k => spec_l1Copy.l0 k (i : Int) l0 l1 a2 a3 l0 (l1.take i) a2 a3) (l0, l1, a2, a3) := by
  intro d
  induction d with
  | zero =>
    intro i hi
    rw [List.take_of_length_le (by omega)]
    exact Ev.step (fun K => by simp only [spec_l1Copy.l0]; rw [if_neg (by omega)]) (Ev.now _)
  | succ d ih =>
    intro i hi
    have ih' := ih (i + 1) (by omega)
    have h1 := hok.1
    have hx := hok.2 _ (rdP_mem l1 i (by omega))
    have ew : wrap64 ((i : Int) + 1) = ((i + 1 : Nat) : Int) := by unfold wrap64; omega
    have hp : l1.take (i + 1) = l1.take i ++ [rd_T79 l1 (i : Int)] := by
      unfold rd_T79
      rw [List.take_succ_eq_append_getElem (by omega), Int.toNat_natCast, List.getD_eq_getElem?_getD, List.getElem?_eq_getElem (by omega)]
      rfl
    rw [hp] at ih'
    exact Ev.step (fun K => by
      simp only [spec_l1Copy.l0]
      rw [if_pos (by omega), if_pos (by omega), Option.bind_some, if_pos (by simp; omega), if_pos (by rw [List.length_take]; omega), ew, List.nil_append]) ih'
theorem specCopy_ev (l0 : List Int) (l1 : List S79) (a2 : Int) (a3 : Bool) (h0 : l0.length ≤ 1048576) (hok : okPendS l1) : Ev (fun k => spec_l1Copy.f k l0 l1 a2 a3) (l0, l1, a2, a3) := by
  unfold spec_l1Copy.f
  exact Ev.congr (fun K => by rw [Option.bind_some, if_pos (by rw [List.length_nil]; omega), List.nil_append]; rfl) (specCopy_loop l0 l1 a2 a3 hok l1.length 0 (by omega))
theorem specStep_ev (l0 : List Int) (l1 : List S79) (a2 : Int) (a3 : Bool) (h0 : l0.length ≤ 1048576) (hok : okPendS l1) (hf : -1 ≤ a2) (hf2 : a2 ≤ 1000000) : Ev (fun k => spec_l1Step.f k l0 l1 a2 a3) (if a2 = 0 then (l0, l1, 0, true) else (l0, l1, fuelD a2, a3)) := by
  unfold spec_l1Step.f
  refine Ev.bind (specCopy_ev l0 l1 a2 a3 h0 hok) ?_
  by_cases c : a2 = 0
  · subst c
    exact Ev.congr (fun K => by rw [if_pos rfl, if_pos rfl]) (Ev.now _)
  · rw [if_neg c]
    unfold fuelD
    by_cases c2 : a2 > 0
    · rw [if_pos (show 0 < a2 from c2)]
      exact Ev.congr (fun K => by rw [if_neg c, if_pos c2, show wrap64 (a2 - 1) = a2 - 1 by unfold wrap64; omega]) (Ev.now _)
    · rw [if_neg (show ¬ 0 < a2 from c2)]
      exact Ev.congr (fun K => by rw [if_neg c, if_neg c2]) (Ev.now _)
theorem specSync_loop (l0 : List Int) (l1 : List S79) (a2 : Int) (a3 : Bool) (x1 : List S79) (f : Int) (h2 : l0.length ≤ 65599) (h3 : l1.length ≤ 2000) (h : ∀ x ∈ l1, 0 ≤ x.f0 ∧ x.f0 < ((l0.length / 64 : Nat) : Int) ∧ x.f1.length = 64) :
    ∀ (d i : Nat), i + d = l1.length → Ev (fun k => spec_DiskSync.l0 k (i : Int) l0 l1 a2 a3 (syF l0 l1 i) x1 f a3) (syF l0 l1 l1.length, ([] : List S79), f, a3) := by
  intro d
  induction d with
  | zero => intro i hi; obtain rfl : i = l1.length := by omega
            exact Ev.step (fun K => by simp only [spec_DiskSync.l0]; rw [if_neg (by omega)]) (Ev.now _)
  | succ d ih =>
    intro i hi
    have ih' := ih (i + 1) (by omega)
    have hx := h _ (rdP_mem l1 i (by omega))
    have hl := syF_len l0 l1 h i (by omega)
    have ew : wrap64 ((i : Int) + 1) = ((i + 1 : Nat) : Int) := by unfold wrap64; omega
    have hn : syF l0 l1 (i + 1) = ovr (syF l0 l1 i) (rd_T79 l1 (i : Int)).f0 (rd_T79 l1 (i : Int)).f1 := rfl
    rw [hn] at ih'
    have ho := over_eq (syF l0 l1 i) (rd_T79 l1 (i : Int)).f0 (rd_T79 l1 (i : Int)).f1 hx.1 (by rw [hl, hx.2.2]; omega) (by omega)
    exact Ev.step (fun K => by simp only [spec_DiskSync.l0]; rw [if_pos (by omega), if_pos (by omega), ho, Option.bind_some, ew]) ih'
theorem specSync_ev (l0 : List Int) (l1 : List S79) (a2 : Int) (a3 : Bool) (h0 : l0.length ≤ 1048576) (hok : okPendS l1) : Ev (fun k => spec_DiskSync.f k l0 l1 a2 a3) (dSync l0 l1 a2 a3) := by
  have hj : Ev (fun k => spec_DiskSync.j0 k true l0 l1 a2 a3) (l0, l1, a2, a3) := Ev.step (fun K => by simp only [spec_DiskSync.j0]; rw [if_true]) (Ev.bind (specCopy_ev l0 l1 a2 a3 h0 hok) (Ev.now _))
  unfold spec_DiskSync.f dSync
  refine Ev.bind (specValid_ev l0 l1 a2 a3 h0 hok.1) ?_
  by_cases cv : vD l0 l1 a2 = true
  case neg =>
    have cv' : vD l0 l1 a2 = false := by simpa using cv
    rw [cv', Bool.false_and, if_neg (by decide)]
    exact Ev.congr (fun K => by rw [if_neg (by decide)]) hj
  obtain ⟨f1, f2, f3, f4, f5, f6, f7⟩ := vD_facts cv
  rw [cv, Bool.true_and]
  refine Ev.congr (fun K => by rw [if_pos rfl]) ?_
  cases a3 with
  | true => exact hj
  | false =>
    rw [Bool.not_false, if_pos rfl]
    have hs := specStep_ev l0 l1 a2 false h0 hok f5 f6
    refine Ev.step (fun K => by simp only [spec_DiskSync.j0]; rw [if_neg (by decide)]) (Ev.bind hs ?_)
    by_cases c : a2 = 0
    · rw [if_pos c, if_pos c]
      exact Ev.congr (fun K => by rw [if_pos rfl]) (Ev.now _)
    · rw [if_neg c, if_neg c]
      exact Ev.congr (fun K => by rw [if_neg (by simp)]; rfl) (specSync_loop l0 l1 a2 false l1 (fuelD a2) f3 f4 f7 l1.length 0 (by omega))

/-! ### L_specWrite: a text by hand -/
theorem specWrite_ev (l0 : List Int) (l1 : List S79) (a2 : Int) (a3 : Bool) (s : Int) (xs : List Int) (h0 : l0.length ≤ 1048576) (hok : okPendS l1) (hx : xs.length ≤ 1048576) : Ev (fun k => spec_DiskWrite.f k l0 l1 a2 a3 s xs) (dWrite l0 l1 a2 a3 s xs) := by
  have hj : Ev (fun k => spec_DiskWrite.j0 k s xs true l0 l1 a2 a3) (l0, l1, a2, a3) := Ev.step (fun K => by simp only [spec_DiskWrite.j0]; rw [if_true]) (Ev.bind (specCopy_ev l0 l1 a2 a3 h0 hok) (Ev.now _))
  unfold spec_DiskWrite.f dWrite
  refine Ev.bind (specValid_ev l0 l1 a2 a3 h0 hok.1) ?_
  by_cases cv : vD l0 l1 a2 = true
  case neg =>
    rw [if_neg (fun h => cv h.1)]
    exact Ev.congr (fun K => by rw [if_neg cv]) hj
  obtain ⟨f1, f2, f3, f4, f5, f6, f7⟩ := vD_facts cv
  refine Ev.congr (fun K => by rw [if_pos cv]) ?_
  cases a3 with
  | true =>
    rw [if_neg (fun h => by cases h.2.1)]
    exact hj
  | false =>
  refine Ev.congr (fun K => by rw [if_neg (by decide)]) ?_
  by_cases c : s < 0
  · rw [if_neg (fun h => by have := h.2.2.1; unfold inD at this; simp at this; omega)]
    exact Ev.congr (fun K => by rw [if_pos c]) hj
  have hsec : spec_l1Sectors.f l0 l1 a2 false = some ((l0.length / 64 : Nat) : Int) := by unfold spec_l1Sectors.f; rw [sectors_at l0 h0]
  refine Ev.congr (fun K => by rw [if_neg c, hsec, Option.bind_some]) ?_
  by_cases c2 : s ≥ ((l0.length / 64 : Nat) : Int)
  · rw [if_neg (fun h => by have := h.2.2.1; unfold inD at this; simp at this; omega)]
    exact Ev.congr (fun K => by rw [if_pos c2]) hj
  refine Ev.congr (fun K => by rw [if_neg c2]) ?_
  have hin : inD l0 s = true := by unfold inD; rw [decide_eq_true (show 0 ≤ s by omega), decide_eq_true (show s < _ by omega)]; rfl
  by_cases c3 : xs.length = 64
  case neg =>
    rw [if_neg (fun h => c3 h.2.2.2.1)]
    exact Ev.congr (fun K => by rw [if_neg (by omega)]) hj
  refine Ev.congr (fun K => by rw [if_pos (by omega)]) ?_
  by_cases c4 : l1.length = 2000
  · rw [if_neg (fun h => h.2.2.2.2 c4)]
    exact Ev.congr (fun K => by rw [show ((l1.length : Int) == 2000) = true by simpa using (by omega : (l1.length : Int) = 2000)]) hj
  rw [if_pos ⟨cv, rfl, hin, c3, c4⟩]
  refine Ev.congr (fun K => by rw [show ((l1.length : Int) == 2000) = false by simpa using (by omega : ¬ (l1.length : Int) = 2000)]) ?_
  have hs := specStep_ev l0 l1 a2 false h0 hok f5 f6
  refine Ev.step (fun K => by simp only [spec_DiskWrite.j0]; rw [if_neg (by decide)]) (Ev.bind hs ?_)
  by_cases c5 : a2 = 0
  · rw [if_pos c5, if_pos c5]
    exact Ev.congr (fun K => by rw [if_pos rfl]) (Ev.now _)
  · rw [if_neg c5, if_neg c5]
    exact Ev.congr (fun K => by rw [if_neg (by simp), Option.bind_some, if_pos (by simp; omega), if_pos (by simp; omega), List.nil_append]) (Ev.now _)

/-! ### L_superEv: a text by hand -/
theorem put_ev (x : Int) (hx : 0 ≤ x) (hx2 : x < 4294967296) : Ev (fun k => spec_l2Put.f k x 4) (put4 x) := by
  refine Ev.of (fun k => spec_l2Put.mono _ _ k) (k := 5) ?_
  unfold spec_l2Put.f
  have hx' : 0 ≤ x / 256 ∧ x / 256 < 4294967296 := by omega
  have hx'' : 0 ≤ x / 256 / 256 ∧ x / 256 / 256 < 4294967296 := by omega
  have hx3 : 0 ≤ x / 256 / 256 / 256 ∧ x / 256 / 256 / 256 < 4294967296 := by omega
  rw [put_step _ _ _ _ (by decide) (by decide) (by simp) hx hx2, put_step _ _ _ _ (by decide) (by decide) (by simp) hx'.1 hx'.2, put_step _ _ _ _ (by decide) (by decide) (by simp) hx''.1 hx''.2, put_step _ _ _ _ (by decide) (by decide) (by simp) hx3.1 hx3.2, spec_l2Put.l0, if_neg (by decide)]
  rfl
set_option maxRecDepth 100000 in
theorem zeros_ev : Ev (fun k => spec_l1Zeros.f k 48) (List.replicate 48 0) := Ev.of (fun k => spec_l1Zeros.mono _ k) (k := 50) (by decide +kernel)
theorem cat_ev (ls : List (List Int)) (hl : ls.length < 1000) (hb : ∀ x ∈ ls, x.length ≤ 100) : ∀ (m i : Nat) (acc : List Int), i + m = ls.length → acc.length ≤ 100 * i → Ev (fun k => spec_l2Cat.l0 k ls acc i) (acc ++ (ls.drop i).flatten)
  | 0, i, acc, hi, ha => by
    have e : ls.drop i = [] := List.drop_of_length_le (by omega)
    rw [e]
    refine Ev.step (f := fun _ => some (acc ++ [].flatten)) (fun K => ?_) (Ev.now _)
    rw [spec_l2Cat.l0, if_neg (by omega)]
    simp
  | m + 1, i, acc, hi, ha => by
    have hlt : i < ls.length := by omega
    have e : rd_L2 ls i = ls[i] := by simp [rd_L2, hlt]
    have hx := hb ls[i] (List.getElem_mem hlt)
    have ih := cat_ev ls hl hb m (i + 1) (acc ++ ls[i]) (by omega) (by rw [List.length_append]; omega)
    rw [List.drop_eq_getElem_cons hlt, List.flatten_cons, ← List.append_assoc]
    refine Ev.step (fun K => ?_) ih
    rw [spec_l2Cat.l0, if_pos (by omega), if_pos (by omega), e, if_pos (by omega), show wrap64 ((i : Int) + 1) = ((i + 1 : Nat) : Int) from by unfold wrap64; omega]
theorem cat_evf (ls : List (List Int)) (hl : ls.length < 1000) (hb : ∀ x ∈ ls, x.length ≤ 100) : Ev (fun k => spec_l2Cat.f k ls) ls.flatten := by
  have : Ev (fun k => spec_l2Cat.l0 k ls [] 0) ls.flatten := by simpa using cat_ev ls hl hb ls.length 0 [] (by omega) (by simp)
  exact this
theorem crc_l1_ev (l : List Int) (i : Nat) (hi : i < 4611686018427387904) (next : ∀ x, ∃ r, Ev (fun k => spec_Crc32.l0 k l x ((i + 1 : Nat) : Int)) r) : ∀ (m j : Nat), j + m = 8 → ∀ x, ∃ r, Ev (fun k => spec_Crc32.l1 k l x i j) r
  | 0, j, hj, x => by
    obtain ⟨r, hr⟩ := next x
    exact ⟨r, Ev.step (fun K => by rw [spec_Crc32.l1, if_neg (by omega), show wrap64 ((i : Int) + 1) = ((i + 1 : Nat) : Int) from by unfold wrap64; omega]) hr⟩
  | m + 1, j, hj, x => by
    have ew : wrap64 ((j : Int) + 1) = ((j + 1 : Nat) : Int) := by unfold wrap64; omega
    by_cases c : Int.tmod x 2 = 1
    · obtain ⟨r, hr⟩ := crc_l1_ev l i hi next m (j + 1) (by omega) (Go.bits .xor .u32 ((Int.tdiv x 2) % 4294967296) 3988292384)
      exact ⟨r, Ev.step (fun K => by rw [spec_Crc32.l1, if_pos (by omega), if_pos c, ew]) hr⟩
    · obtain ⟨r, hr⟩ := crc_l1_ev l i hi next m (j + 1) (by omega) ((Int.tdiv x 2) % 4294967296)
      exact ⟨r, Ev.step (fun K => by rw [spec_Crc32.l1, if_pos (by omega), if_neg c, ew]) hr⟩
theorem crc_l0_ev (l : List Int) (hl : l.length < 4611686018427387904) : ∀ (m i : Nat), i + m = l.length → ∀ x, ∃ r, Ev (fun k => spec_Crc32.l0 k l x i) r
  | 0, i, hi, x => ⟨_, Ev.step (f := fun _ => some (Go.bits .xor .u32 x 4294967295)) (fun K => by rw [spec_Crc32.l0, if_neg (by omega)]) (Ev.now _)⟩
  | m + 1, i, hi, x => by
    obtain ⟨r, hr⟩ := crc_l1_ev l i (by omega) (fun y => crc_l0_ev l hl m (i + 1) (by omega) y) 8 0 rfl (Go.bits .xor .u32 x ((rd l i) % 4294967296))
    exact ⟨r, Ev.step (fun K => by rw [spec_Crc32.l0, if_pos (by omega), if_pos (by omega)]; rfl) hr⟩
theorem crc_ev (l : List Int) (hl : l.length < 4611686018427387904) : ∃ r, Ev (fun k => spec_Crc32.f k l) r := crc_l0_ev l hl l.length 0 (by omega) 4294967295
theorem super_ev (b0 b1 b2 : Int) (h0 : 0 ≤ b0) (h0' : b0 < 4294967296) (h2 : 0 ≤ b2) (h2' : b2 < 4294967296) : ∃ t : List Int, t.length = 64 ∧ Ev (fun k => spec_l2SuperBytes.f k b0 b1 b2) t := by
  have hc := cat_evf [put4 b0, [81, 49], [b1 % 256, 0], put4 b2, List.replicate 48 0] (by simp) (by simp [put4])
  have hl : [put4 b0, [81, 49], [b1 % 256, 0], put4 b2, List.replicate 48 0].flatten.length = 60 := by simp [put4]
  generalize [put4 b0, [81, 49], [b1 % 256, 0], put4 b2, List.replicate 48 0].flatten = x3 at hc hl
  obtain ⟨cr, hcr⟩ := crc_ev x3 (by omega)
  obtain ⟨kc, hkc⟩ := hcr.rounds
  have hb := crc_bd kc x3 cr (by omega) hkc
  have hw : wrap64 cr = cr := by unfold wrap64; omega
  have hc2 := cat_evf [x3, put4 cr] (by simp) (by simp [put4, hl])
  refine ⟨[x3, put4 cr].flatten, by simp [put4, hl], ?_⟩
  unfold spec_l2SuperBytes.f
  refine Ev.bind (put_ev b0 h0 h0') (Ev.bind (put_ev b2 h2 h2') (Ev.bind zeros_ev (Ev.bind hc (Ev.bind ?_ (Ev.now _)))))
  unfold spec_l2Seal.f
  refine Ev.bind hcr (Ev.bind ?_ (Ev.bind hc2 (Ev.now _)))
  rw [hw]
  exact put_ev cr hb.1 hb.2
theorem dWrite_okS (l0 : List Int) (l1 : List S79) (a2 : Int) (a3 : Bool) (s : Int) (xs : List Int) (h0 : l0.length ≤ 1048576) (ok : okPendS l1) : (dWrite l0 l1 a2 a3 s xs).1.length ≤ 1048576 ∧ okPendS (dWrite l0 l1 a2 a3 s xs).2.1 := by
  unfold dWrite
  split
  · rename_i hv
    obtain ⟨f1, f2, f3, f4, f5, f6, f7⟩ := vD_facts hv.1
    split
    · exact ⟨h0, ok⟩
    · refine ⟨h0, ⟨by simp; omega, fun x hx => ?_⟩⟩
      rcases List.mem_append.1 hx with h | h
      · exact ok.2 x h
      · rw [List.mem_singleton.1 h]; show xs.length ≤ _; rw [hv.2.2.2.1]; decide
  · exact ⟨h0, ok⟩
theorem dSync_okS (l0 : List Int) (l1 : List S79) (a2 : Int) (a3 : Bool) (h0 : l0.length ≤ 1048576) (ok : okPendS l1) : (dSync l0 l1 a2 a3).1.length ≤ 1048576 ∧ okPendS (dSync l0 l1 a2 a3).2.1 := by
  unfold dSync
  split
  · rename_i hv
    rw [Bool.and_eq_true] at hv
    obtain ⟨f1, f2, f3, f4, f5, f6, f7⟩ := vD_facts hv.1
    split
    · exact ⟨h0, ok⟩
    · exact ⟨by rw [syF_len l0 l1 f7 _ (Nat.le_refl _)]; exact h0, ⟨by simp, by simp⟩⟩
  · exact ⟨h0, ok⟩
theorem specGood_eq (b0 b1 b2 : Int) : spec_l2GoodSuper.f b0 b1 b2 = some (gS b0 b1 b2) := by
  unfold spec_l2GoodSuper.f spec_l2Number.f gS
  by_cases h1 : 0 ≤ b0 <;> by_cases h2 : b0 ≤ 2000000000 <;> by_cases h3 : b1 = 0 <;> by_cases h4 : b1 = 1 <;> by_cases h5 : 1 ≤ b2 <;> by_cases h6 : b2 ≤ 2000000000 <;> by_cases h7 : 0 ≤ b1 <;> by_cases h8 : b1 ≤ 1 <;> first | omega | simp [h1, h2, h3, h4, h5, h6, h7, h8]
theorem writeSuper_ev (l0 : List Int) (l1 : List S79) (a2 : Int) (a3 : Bool) (b0 b1 b2 : Int) (h0 : l0.length ≤ 1048576) (ok : okPendS l1) :
    ∃ g : List Int × List S79 × Int × Bool, g.1.length ≤ 1048576 ∧ okPendS g.2.1 ∧ Ev (fun k => spec_WriteSuper.f k l0 l1 a2 a3 b0 b1 b2) g ∧ Ev (fun k => m_WriteSuper.f k l0 l1 a2 a3 b0 b1 b2) g := by
  have hL : l0.length ≤ 1048576 ∧ l1.length ≤ 1048576 ∧ l1.all (fun x => decide (x.f1.length ≤ 1048576)) = true := ⟨h0, ok.1, List.all_eq_true.2 (fun x hx => decide_eq_true (ok.2 x hx))⟩
  have hcp : Ev (fun k => spec_WriteSuper.j0 k true l0 l1 a2 a3 b0 b1 b2) (l0, l1, a2, a3) := Ev.step (fun K => by simp only [spec_WriteSuper.j0]; rw [if_true]) (Ev.bind (specCopy_ev l0 l1 a2 a3 h0 ok) (Ev.now _))
  by_cases hv : vD l0 l1 a2 = true
  · by_cases hg : gS b0 b1 b2 = true
    · obtain ⟨f1, f2, f3, f4, f5⟩ := gS_facts hg
      obtain ⟨t, htl, ht⟩ := super_ev b0 b1 b2 f1 (by omega) (by omega) (by omega)
      have ok1 := dWrite_okS l0 l1 a2 a3 (Int.tmod b0 2) t h0 ok
      have hw := specWrite_ev l0 l1 a2 a3 (Int.tmod b0 2) t h0 ok (by omega)
      have hm : m_DiskWrite.f l0 l1 a2 a3 (Int.tmod b0 2) t = some (dWrite l0 l1 a2 a3 (Int.tmod b0 2) t) := if_pos hL
      generalize dWrite l0 l1 a2 a3 (Int.tmod b0 2) t = d at ok1 hw hm
      have ok2 := dSync_okS d.1 d.2.1 d.2.2.1 d.2.2.2 ok1.1 ok1.2
      have hy := specSync_ev d.1 d.2.1 d.2.2.1 d.2.2.2 ok1.1 ok1.2
      have hm2 : m_DiskSync.f d.1 d.2.1 d.2.2.1 d.2.2.2 = some (dSync d.1 d.2.1 d.2.2.1 d.2.2.2) := if_pos ⟨ok1.1, ok1.2.1, List.all_eq_true.2 (fun x hx => decide_eq_true (ok1.2.2 x hx))⟩
      refine ⟨dSync d.1 d.2.1 d.2.2.1 d.2.2.2, ok2.1, ok2.2, ?_, ?_⟩
      · unfold spec_WriteSuper.f
        refine Ev.bind (specValid_ev l0 l1 a2 a3 h0 ok.1) ?_
        refine Ev.congr (fun k => if_pos hv) ?_
        refine Ev.congr (fun k => by rw [specGood_eq, Option.bind_some, hg]) ?_
        refine Ev.step (fun K => by simp only [spec_WriteSuper.j0]; rw [if_neg (by decide)]) ?_
        exact Ev.bind ht (Ev.bind hw (Ev.bind hy (Ev.now _)))
      · obtain ⟨K, hK⟩ := ht
        refine ⟨K, fun k hk => ?_⟩
        show m_WriteSuper.f k l0 l1 a2 a3 b0 b1 b2 = _
        unfold m_WriteSuper.f
        rw [if_pos hL, hv, hg, if_pos (by decide), super_eq k b0 b1 b2 t f1 (by omega) (by omega) (by omega) (hK k hk), Option.bind_some, hm, Option.bind_some, hm2]
    · refine ⟨(l0, l1, a2, a3), h0, ok, ?_, ⟨0, fun k _ => ?_⟩⟩
      · unfold spec_WriteSuper.f
        refine Ev.bind (specValid_ev l0 l1 a2 a3 h0 ok.1) ?_
        refine Ev.congr (fun k => if_pos hv) ?_
        refine Ev.congr (fun k => by rw [specGood_eq, Option.bind_some, show gS b0 b1 b2 = false by simpa using hg]) ?_
        exact hcp
      · show m_WriteSuper.f k l0 l1 a2 a3 b0 b1 b2 = _
        unfold m_WriteSuper.f
        rw [if_pos hL, hv, if_neg (by simpa using hg)]
  · refine ⟨(l0, l1, a2, a3), h0, ok, ?_, ⟨0, fun k _ => ?_⟩⟩
    · unfold spec_WriteSuper.f
      refine Ev.bind (specValid_ev l0 l1 a2 a3 h0 ok.1) ?_
      exact Ev.congr (fun k => if_neg hv) hcp
    · show m_WriteSuper.f k l0 l1 a2 a3 b0 b1 b2 = _
      unfold m_WriteSuper.f
      rw [if_pos hL, if_neg (by simp [show vD l0 l1 a2 = false by simpa using hv])]

/-! ### laws_markDisk: a text by hand -/
set_option maxHeartbeats 1000000 in
set_option maxRecDepth 100000 in
theorem laws_markDisk.calls (k1 k2 : Nat) (P0 P1 : Nat → Prop) (v0 v1 : Value) (l0 : List Int) (l1 : List S79) (a2 : Int) (a3 : Bool) (a1 b1 : Int) (b2 : List Int) (r1 : Int) (r2 : List S79) (w0 w : World)
    (hB : Below w0.heap.size w0 w) (ho0 : Kd.R (Kd.int .u8) 5 w w0.heap.size P0 v0 l0) (ho1 : Kd.S k79 79 w w0.heap.size P1 v1 l1) (hp : ∀ k, P0 k → ¬ P1 k)
    (h1 : laws_markByteS.f k1 l0 a1 = some (b1, b2)) (h2 : laws_markPendS.f k2 l1 b1 = some (r1, r2)) :
    Calls Try.prog 28 #[.agg #[v0, v1, .int .i64 a2, .bool a3], .int .i64 a1] w fun e w' => e = .returned (.int .i64 r1) ∧ Kd.R (Kd.int .u8) 5 w' w0.heap.size P0 v0 b2 ∧
      Kd.S k79 79 w' w0.heap.size (fun k => P1 k ∨ w.heap.size ≤ k) v1 r2 ∧ Below w0.heap.size w0 w' ∧ Kept w w' (fun k => P0 k ∨ P1 k) := by
  have H1 := Aside0.mk h1
  have H2 := Aside0.mk h2
  have HB := Aside0.mk hB
  have HO0 := Aside0.mk ho0
  have HO1 := Aside0.mk ho1
  have HP := Aside0.mk hp
  clear h1 h2 hB ho0 ho1 hp
  have hu := Try.underlying25
  obtain ⟨A0, c0, rfl⟩ := Kd.R_slice HO0.out
  obtain ⟨A1, c1, rfl⟩ := Kd.S_slice HO1.out
  go_enter Try.func28, Try.ntmps28
  go_wp2_with fail
  have hlt0 := Kd.R_lt HO0.out
  have hS1 := Kd.S_mono (ok' := fun k => P1 k ∧ k < w.heap.size) (Kd.S_bound HO1.out) (fun k hk => ⟨hk.1, hk.2.2.1⟩)
  refine (laws_markByteS.calls k1 (fun k => some k = (Value.slice A0 l0.length c0).ownBlock) _ _ _ b1 b2 w0 _ (below_allocB HB.out HB.out.size _) (Kd.R_alloc (Kd.R_tight rfl HO0.out) _) H1.out).mono ?_
  rintro e w1 ⟨rfl, hR, hB1, hK1⟩
  have G0 := blk_kept (blk_new w _) hK1 (fun he => absurd (hlt0 _ he.symm) (Nat.lt_irrefl _))
  have hx := blk_cell G0 1
  have hx1 : w1.cell? ⟨w.heap.size, 1, none⟩ = some (.slice A1 l1.length c1) := hx.trans rfl
  clear hx
  have hR' := Aside0.mk (Kd.R_reok rfl hR (fun k hk => HO0.out.1 k hk))
  have hS' := Aside0.mk (Kd.S_kept (Kd.S_alloc hS1 _) hK1 (fun k hk he => HP.out k (HO0.out.1 k he.symm) hk.1))
  have hz1 := Aside0.mk hK1.1
  have HK1 := Aside0.mk (show Kept w w1 (fun k => P0 k ∨ P1 k) from (Kept.alloc (Kept.refl w _) _).then_ hK1 (fun k hk => .inl (.inl (HO0.out.1 k hk.symm))))
  have HB1 := Aside0.mk hB1
  clear hR hB1 hK1 G0 hlt0 hS1
  go_wp2_with fail
  refine (laws_markPendS.calls k2 (fun k => P1 k ∧ k < w.heap.size) _ _ _ r1 r2 w0 _ HB1.out hS'.out H2.out).mono ?_
  rintro e w2 ⟨rfl, hS, hB2, hK2⟩
  have n0 := Aside0.mk (Kd.R_kept hR'.out hK2 (fun k hk he => HP.out k hk he.1))
  have n1 := Aside0.mk (Kd.S_mono (ok' := fun k => P1 k ∨ w.heap.size ≤ k) hS (fun k hk => hk.imp (fun h => h.1) (fun h => by have := HK1.out.1; omega)))
  have n2 := Aside0.mk hB2
  have n3 := Aside0.mk (HK1.out.then_ hK2 (fun k hk => .inl (.inr hk.1)))
  clear hS hB2 hK2
  go_wp2
  go_ret
  exact ⟨rfl, n0.out, n1.out, n2.out, n3.out⟩

/-! ### laws_markDisk2: a text by hand -/
theorem laws_markByteS.own (k lo hi : Nat) (v : Value) (l : List Int) (m0 m1 : Int) (l' : List Int) (w0 w : World) {ok : Nat → Prop} (hle : w0.heap.size ≤ lo) (hB : Below w0.heap.size w0 w)
    (ho : Kd.R (Kd.int .u8) 5 w w0.heap.size (fun k => (lo ≤ k ∧ k < hi) ∧ ok k) v l) (h : laws_markByteS.f k l m0 = some (m1, l')) :
    Calls Try.prog 39 #[v, .int .i64 m0] w fun e w' => e = .returned (.int .i64 m1) ∧ Kd.R (Kd.int .u8) 5 w' w0.heap.size (fun k => (lo ≤ k ∧ k < hi) ∧ ok k) v l' ∧ Below w0.heap.size w0 w' ∧ Kept w w' (fun k => lo ≤ k ∧ k < hi) :=
  (laws_markByteS.calls k (fun k => (lo ≤ k ∧ k < hi) ∧ ok k) v l m0 m1 l' w0 w hB ho h).mono fun e w' hh => ⟨hh.1, Kd.R_reok rfl hh.2.1 (fun k hk => ho.1 k hk), hh.2.2.1, hh.2.2.2.mono (fun k hk => hk.1)⟩
theorem laws_markDisk.own (k1 k2 lo hi : Nat) (v0 v1 : Value) (a2 : Int) (a3 : Bool) (l0 : List Int) (l1 : List S79) (m0 m1 m2 : Int) (l0' : List Int) (l1' : List S79) (w0 w : World) {ok0 : Nat → Prop} (hle : w0.heap.size ≤ lo) (hB : Below w0.heap.size w0 w)
    (ho0 : Kd.R (Kd.int .u8) 5 w w0.heap.size (fun k => (lo ≤ k ∧ k < hi) ∧ ok0 k) v0 l0) (ho1 : Kd.S k79 79 w w0.heap.size (fun k => (lo ≤ k ∧ k < hi) ∧ some k ≠ v0.ownBlock) v1 l1)
    (h1 : laws_markByteS.f k1 l0 m0 = some (m1, l0')) (h2 : laws_markPendS.f k2 l1 m1 = some (m2, l1')) :
    Calls Try.prog 28 #[.agg #[v0, v1, .int .i64 a2, .bool a3], .int .i64 m0] w fun e w' => e = .returned (.int .i64 m2) ∧ Kd.R (Kd.int .u8) 5 w' w0.heap.size (fun k => (lo ≤ k ∧ k < hi) ∧ some k = v0.ownBlock) v0 l0' ∧
      Kd.S k79 79 w' w0.heap.size (fun k => ((lo ≤ k ∧ k < hi) ∧ some k ≠ v0.ownBlock) ∨ w.heap.size ≤ k) v1 l1' ∧ Below w0.heap.size w0 w' ∧ Kept w w' (fun k => lo ≤ k ∧ k < hi) :=
  (laws_markDisk.calls k1 k2 (fun k => (lo ≤ k ∧ k < hi) ∧ some k = v0.ownBlock) (fun k => (lo ≤ k ∧ k < hi) ∧ some k ≠ v0.ownBlock) v0 v1 l0 l1 a2 a3 m0 m1 l0' m2 l1' w0 w hB (Kd.R_reok rfl ho0 (fun k hk => ⟨(ho0.1 k hk).1, hk.symm⟩)) ho1 (fun k a b => b.2 a.2) h1 h2).mono
    fun e w' hh => ⟨hh.1, hh.2.1, hh.2.2.1, hh.2.2.2.1, hh.2.2.2.2.mono (fun k hk => hk.elim (fun h => h.1) (fun h => h.1))⟩

/-! ### zguard1_WriteSuper: a text by hand -/
set_option maxHeartbeats 4000000 in
set_option maxRecDepth 100000 in
theorem guard1_FnExactWriteSuper (A0_0 : Option Addr) (c0_0 : Nat) (l0_0 : List Int) (A0_1 : Option Addr) (c0_1 : Nat) (l0_1 : List S127) (a0_2 : Int) (a0_3 : Bool) (a1_0 : Int) (a1_1 : Int) (a1_2 : Int) (r1 : Int) (w : World)
    (hr0_0 : Kd.C (Kd.int .u8) w A0_0 l0_0.length l0_0) (hc0_0 : l0_0.length ≤ c0_0) (hr0_1 : Kd.C k127 w A0_1 l0_1.length l0_1) (hc0_1 : l0_1.length ≤ c0_1)
    (E2 : Ev (fun k => laws_szDisk.f k l0_0 l0_1 a0_2 a0_3 1048576) r1) (E2p : r1 < 0) :
    Calls Try.prog 6 #[.agg #[.slice A0_0 l0_0.length c0_0, .slice A0_1 l0_1.length c0_1, .int .i64 a0_2, .bool a0_3], .agg #[.int .i64 a1_0, .int .i64 a1_1, .int .i64 a1_2]] w fun e w' => e = .returned (.bool true) ∧ Below w.heap.size w w' := by
  obtain ⟨k_E2, h_E2⟩ := E2.rounds
  have H_E2 := Aside0.mk h_E2
  clear E2 h_E2
  have E2pb : decide (r1 < 0) = true := decide_eq_true (by omega)
  have HR0_0 := Aside0.mk hr0_0
  have HC0_0 := Aside0.mk hc0_0
  clear hr0_0 hc0_0
  have HR0_1 := Aside0.mk hr0_1
  have HC0_1 := Aside0.mk hc0_1
  clear hr0_1 hc0_1
  have hu37 := Try.underlying37
  have hu55 := Try.underlying55
  have HB := Aside0.mk (Below.refl w.heap.size w)
  go_enter Try.func6, Try.ntmps6
  go_wp2_with fail
  refine (laws_szDisk.calls k_E2 _ _ l0_0 _ _ l0_1 a0_2 a0_3 1048576 r1 _ (Kd.C_below HR0_0.out (below_alloc (below_alloc HB.out _) _)) HC0_0.out (Kd.C_below HR0_1.out (below_alloc (below_alloc HB.out _) _)) HC0_1.out H_E2.out).mono ?_
  rintro e w1 ⟨rfl, gb⟩
  have hz1 : w.heap.size + 2 ≤ w1.heap.size := by have := gb.size; first | omega | (simp at this; omega)
  have N_HB := Aside0.mk (below_step (below_alloc (below_alloc HB.out _) _) gb)
  have K2 := Aside0.mk (show w1.heap[w.heap.size]? = some (.cells #[.slice A0_0 l0_0.length c0_0, .slice A0_1 l0_1.length c0_1, .int .i64 a0_2, .bool a0_3] 37 (0, 0)) from by have := blk_below (blk_alloc (blk_new _ _) _) gb; simpa using this)
  have K3 := Aside0.mk (show w1.heap[w.heap.size + 1]? = some (.cells #[.int .i64 a1_0, .int .i64 a1_1, .int .i64 a1_2] 55 (0, 0)) from by have := blk_below (blk_new _ _) gb; simpa using this)
  clear HB
  have HB := N_HB
  clear N_HB
  clear gb
  go_wp2
  go_ret
  exact ⟨rfl, by first | exact HB.out | exact below_alloc HB.out _ | exact below_alloc (below_alloc HB.out _) _ | exact below_alloc (below_alloc (below_alloc HB.out _) _) _⟩
end Go.Proofs.Yteddpdonmhiplaa.PR
