-- Made by this session's programs out of the translation and of its own texts.
import Derived.Test.YtbimdcekcemcoaaMFnExactDiskCrashc
namespace Go.Proofs.Ytbimdcekcemcoaa.PD
open Go.RowKit Go.Proofs.YtbimdcekcemcoaaW.PrintWords Go.Proofs.YtbimdcekcemcoaaW.PrintLast Go.Proofs.YtbimdcekcemcoaaW.PrintMore
attribute [local go_sem] max2_int min2_int max_two min_two max_three min_three max_four min_four   -- for this text's walks alone
set_option linter.unusedVariables false
set_option linter.unusedSimpArgs false

/-! ### L_evDisk: a text by hand -/
-- needs laws_szPendS.f laws_toPendS.f laws_eqPendS.f
def cvPend (l : List S78) : List S60 := l.map fun x => ⟨x.f0, x.f1⟩
def okPendS (l : List S60) : Prop := l.length ≤ 1048576 ∧ ∀ x ∈ l, x.f1.length ≤ 1048576
theorem szByteS_at (l : List Int) (a : Int) (h0 : 0 ≤ a) (h1 : a ≤ 1048576) (hL : l.length ≤ maxLen) : ∃ r, laws_szByteS.f l a = some r ∧ r ≤ a ∧ (0 ≤ r → l.length ≤ 1048576) := by
  unfold maxLen at hL
  have e : wrap64 (a - (l.length : Int)) = a - l.length := by unfold wrap64; omega
  unfold laws_szByteS.f
  rw [e]
  by_cases c : a - (l.length : Int) < 0
  · exact ⟨-1, by rw [if_pos c], by omega, by omega⟩
  · exact ⟨_, by rw [if_neg c], by omega, by omega⟩
theorem szPend_at (b : Int) (l : List Int) (a : Int) (h0 : 0 ≤ a) (h1 : a ≤ 1048576) (hL : l.length ≤ maxLen) : ∃ r, laws_szPend.f b l a = some r ∧ r ≤ a ∧ (0 ≤ r → l.length ≤ 1048576) := by
  obtain ⟨r, hr, h2, h3⟩ := szByteS_at l a h0 h1 hL
  unfold laws_szPend.f
  rw [hr]
  by_cases c : r < 0
  · exact ⟨-1, by simp [c], by omega, by omega⟩
  · exact ⟨r, by simp [c], h2, h3⟩
theorem szPendS_loop (l : List S78) (hL : l.length ≤ 1048576) (hF : ∀ x ∈ l, x.f1.length ≤ maxLen) : ∀ (d i : Nat) (a : Int), i + d = l.length → 0 ≤ a → a ≤ 1048576 → (∀ j, j < i → (l.getD j z78).f1.length ≤ 1048576) →
    ∃ r, Ev (fun k => laws_szPendS.l0 k l a (i : Int)) r ∧ r ≤ a ∧ (0 ≤ r → ∀ j, j < l.length → (l.getD j z78).f1.length ≤ 1048576)
  | 0, i, a, hd, h0, h1, hj => ⟨a, Ev.step (fun k => by simp only [laws_szPendS.l0]; rw [if_neg (by omega)]) (Ev.now _), by omega, fun _ j hlt => hj j (by omega)⟩
  | d + 1, i, a, hd, h0, h1, hj => by
    have hm : l.getD i z78 ∈ l := by
      rw [List.getD_eq_getElem?_getD, List.getElem?_eq_getElem (show i < l.length by omega)]
      exact List.getElem_mem _
    obtain ⟨r, hr, h2, h3⟩ := szPend_at (l.getD i z78).f0 (l.getD i z78).f1 a h0 h1 (hF _ hm)
    have hr' : laws_szPend.f (rd_T78 l (i : Int)).f0 (rd_T78 l (i : Int)).f1 a = some r := by unfold rd_T78; rw [Int.toNat_natCast]; exact hr
    by_cases c : r < 0
    · exact ⟨-1, Ev.step (fun k => by simp only [laws_szPendS.l0]; rw [if_pos (by omega), if_pos (by omega), hr']; simp only [Option.bind_some]; rw [if_pos c]) (Ev.now _), by omega, by omega⟩
    · obtain ⟨r2, he, h4, h5⟩ := szPendS_loop l hL hF d (i + 1) r (by omega) (by omega) (by omega) (fun j hlt => by
        rcases Nat.lt_or_ge j i with h | h
        · exact hj j h
        · obtain rfl : j = i := by omega
          exact h3 (by omega))
      exact ⟨r2, Ev.step (fun k => by simp only [laws_szPendS.l0]; rw [if_pos (by omega), if_pos (by omega), hr']; simp only [Option.bind_some]; rw [if_neg c, show wrap64 ((i : Int) + 1) = ((i + 1 : Nat) : Int) by unfold wrap64; omega]) he, by omega, h5⟩
theorem szPendS_ev (l : List S78) (a : Int) (h0 : 0 ≤ a) (h1 : a ≤ 1048576) (hL : l.length ≤ maxLen) (hF : ∀ x ∈ l, x.f1.length ≤ maxLen) :
    ∃ r, Ev (fun k => laws_szPendS.f k l a) r ∧ r ≤ a ∧ (0 ≤ r → l.length ≤ 1048576 ∧ ∀ x ∈ l, x.f1.length ≤ 1048576) := by
  unfold maxLen at hL
  have e : wrap64 (a - (l.length : Int)) = a - l.length := by unfold wrap64; omega
  by_cases c : a - (l.length : Int) < 0
  · exact ⟨-1, Ev.congr (fun k => by unfold laws_szPendS.f; rw [e, if_pos c]) (Ev.now _), by omega, by omega⟩
  · obtain ⟨r, he, h2, h3⟩ := szPendS_loop l (by omega) hF l.length 0 (a - l.length) (by omega) (by omega) (by omega) (fun j h => by omega)
    refine ⟨r, Ev.congr (fun k => by unfold laws_szPendS.f; rw [e, if_neg c]; rfl) he, by omega, fun h => ⟨by omega, fun x hx => ?_⟩⟩
    obtain ⟨j, hj, rfl⟩ := List.getElem_of_mem hx
    have := h3 h j hj
    rwa [List.getD_eq_getElem?_getD, List.getElem?_eq_getElem hj] at this
theorem szDisk_ev (l0 : List Int) (l1 : List S78) (a2 : Int) (a3 : Bool) (hL : l0.length ≤ maxLen) (hL1 : l1.length ≤ maxLen) (hF : ∀ x ∈ l1, x.f1.length ≤ maxLen) :
    ∃ r, Ev (fun k => laws_szDisk.f k l0 l1 a2 a3 1048576) r ∧ (0 ≤ r → l0.length ≤ 1048576 ∧ okPendS (cvPend l1)) := by
  obtain ⟨r, hr, h2, h3⟩ := szByteS_at l0 1048576 (by omega) (by omega) hL
  by_cases c : r < 0
  · exact ⟨-1, Ev.congr (fun k => by unfold laws_szDisk.f; rw [hr]; simp only [Option.bind_some]; rw [if_pos c]) (Ev.now _), by omega⟩
  · obtain ⟨q, hq, h4, h5⟩ := szPendS_ev l1 r (by omega) (by omega) hL1 hF
    by_cases c2 : q < 0
    · exact ⟨-1, Ev.congr (fun k => by unfold laws_szDisk.f; rw [hr]; simp only [Option.bind_some]; rw [if_neg c]) (Ev.bind hq (Ev.congr (fun k => by rw [if_pos c2]) (Ev.now _))), by omega⟩
    · refine ⟨q, Ev.congr (fun k => by unfold laws_szDisk.f; rw [hr]; simp only [Option.bind_some]; rw [if_neg c]) (Ev.bind hq (Ev.congr (fun k => by rw [if_neg c2]) (Ev.now _))), fun h => ⟨h3 (by omega), ?_⟩⟩
      obtain ⟨h6, h7⟩ := h5 (by omega)
      refine ⟨by simpa [cvPend] using h6, fun x hx => ?_⟩
      obtain ⟨y, hy, rfl⟩ := List.mem_map.1 hx
      exact h7 y hy
theorem toPendS_loop (l : List S78) (hL : okPendS (cvPend l)) : ∀ (d i : Nat) (x : List S60), i + d = l.length → x.length = l.length → (∀ j, j < i → x[j]? = (cvPend l)[j]?) →
    Ev (fun k => laws_toPendS.l0 k l x (i : Int)) (cvPend l)
  | 0, i, x, hd, hx, hj => by
    obtain rfl : x = cvPend l := List.ext_getElem? fun j => by
      by_cases h : j < i
      · exact hj j h
      · rw [List.getElem?_eq_none (by omega), List.getElem?_eq_none (by simp [cvPend]; omega)]
    exact Ev.step (fun k => by simp only [laws_toPendS.l0]; rw [if_neg (by omega)]) (Ev.now _)
  | d + 1, i, x, hd, hx, hj => by
    have hl : l.length ≤ 1048576 := by have := hL.1; simpa [cvPend] using this
    have hm : l.getD i z78 ∈ l := by
      rw [List.getD_eq_getElem?_getD, List.getElem?_eq_getElem (show i < l.length by omega)]
      exact List.getElem_mem _
    have he : Ev (fun k => laws_toPend.f k (rd_T78 l (i : Int)).f0 (rd_T78 l (i : Int)).f1) ((rd_T78 l (i : Int)).f0, (rd_T78 l (i : Int)).f1) := by
      have h2 : (l.getD i z78).f1.length ≤ 1048576 := hL.2 _ (List.mem_map.2 ⟨_, hm, rfl⟩)
      unfold laws_toPend.f rd_T78
      rw [Int.toNat_natCast]
      exact Ev.bind (toByteS_ev _ (by omega)) (Ev.now _)
    refine Ev.step (fun k => by simp only [laws_toPendS.l0]; rw [if_pos (by omega), if_pos (by omega)]) (Ev.bind he ?_)
    refine Ev.congr (fun k => by rw [if_pos (by omega), Int.toNat_natCast, show wrap64 ((i : Int) + 1) = ((i + 1 : Nat) : Int) by unfold wrap64; omega])
      (toPendS_loop l hL d (i + 1) (x.set i ⟨(rd_T78 l (i : Int)).f0, (rd_T78 l (i : Int)).f1⟩) (by omega) (by simpa using hx) fun j hlt => ?_)
    rcases Nat.lt_or_ge j i with h | h
    · rw [List.getElem?_set_ne (by omega)]; exact hj j h
    · obtain rfl : j = i := by omega
      rw [List.getElem?_set_self (by omega)]
      simp [rd_T78, cvPend, List.getD_eq_getElem?_getD, List.getElem?_eq_getElem (show j < l.length by omega)]
theorem toPendS_ev (l : List S78) (hL : okPendS (cvPend l)) : Ev (fun k => laws_toPendS.f k l) (cvPend l) := by
  have hl : l.length ≤ 1048576 := by have := hL.1; simpa [cvPend] using this
  refine Ev.congr (fun k => ?_) (toPendS_loop l hL l.length 0 (List.replicate l.length z60) (by omega) (by simp) (fun j h => by omega))
  unfold laws_toPendS.f
  rw [if_pos (by omega), Int.toNat_natCast, if_pos (by omega)]
  rfl
theorem toDisk_ev (l0 : List Int) (l1 : List S78) (a2 : Int) (a3 : Bool) (h0 : l0.length ≤ 1048576) (h1 : okPendS (cvPend l1)) : Ev (fun k => laws_toDisk.f k l0 l1 a2 a3) (l0, cvPend l1, a2, a3) :=
  Ev.bind (toByteS_ev l0 (by omega)) (Ev.bind (toPendS_ev l1 h1) (Ev.now _))
theorem eqPend_ev (a : Int) (l : List Int) (h : l.length ≤ 281474976710656) : Ev (fun k => laws_eqPend.f k a l a l) true :=
  Ev.congr (fun k => by unfold laws_eqPend.f; rw [if_pos rfl]) (Ev.bind (eqByteS_ev l h) (Ev.congr (fun k => by rw [if_pos rfl]) (Ev.now _)))
theorem eqPendS_loop (l : List S60) (hL : okPendS l) : ∀ (d i : Nat), i + d = l.length → Ev (fun k => laws_eqPendS.l0 k l l (i : Int)) true
  | 0, i, hd => Ev.step (fun k => by simp only [laws_eqPendS.l0]; rw [if_neg (by omega)]) (Ev.now _)
  | d + 1, i, hd => by
    have hl := hL.1
    have hm : rd_T60 l (i : Int) ∈ l := by
      unfold rd_T60
      rw [Int.toNat_natCast, List.getD_eq_getElem?_getD, List.getElem?_eq_getElem (show i < l.length by omega)]
      exact List.getElem_mem _
    exact Ev.step (fun k => by simp only [laws_eqPendS.l0]; rw [if_pos (by omega), if_pos (by omega), if_pos (by omega)])
      (Ev.bind (eqPend_ev _ _ (by have := hL.2 _ hm; omega)) (Ev.congr (fun k => by rw [if_pos rfl, show wrap64 ((i : Int) + 1) = ((i + 1 : Nat) : Int) by unfold wrap64; omega]) (eqPendS_loop l hL d (i + 1) (by omega))))
theorem eqPendS_ev (l : List S60) (hL : okPendS l) : Ev (fun k => laws_eqPendS.f k l l) true :=
  Ev.congr (fun k => by unfold laws_eqPendS.f; rw [if_pos rfl]; rfl) (eqPendS_loop l hL l.length 0 (by omega))
theorem eqDisk_ev (l0 : List Int) (l1 : List S60) (a2 : Int) (a3 : Bool) (h0 : l0.length ≤ 1048576) (h1 : okPendS l1) : Ev (fun k => laws_eqDisk.f k l0 l1 a2 a3 l0 l1 a2 a3) true := by
  unfold laws_eqDisk.f
  refine Ev.bind (eqByteS_ev l0 (by omega)) (Ev.congr (fun k => by rw [if_pos rfl]) (Ev.bind (eqPendS_ev l1 h1) (Ev.congr (fun k => by rw [if_pos rfl, if_pos rfl, bne_self_eq_false, if_neg (by decide)]) (Ev.now _))))

/-! ### L_markBytes: a text by hand -/
-- needs laws_markByteS.f laws_heldByteS.f
theorem rd_mid (pre : List Int) (x : Int) (rest : List Int) : rd (pre ++ x :: rest) (pre.length : Int) = x := by unfold rd; rw [Int.toNat_natCast, List.getD_eq_getElem?_getD, List.getElem?_append_right (Nat.le_refl _)]; simp
theorem set_mid {α : Type} (pre : List α) (x y : α) (rest : List α) : (pre ++ x :: rest).set (pre.length : Int).toNat y = (pre ++ [y]) ++ rest := by rw [Int.toNat_natCast, List.set_append_right _ _ (Nat.le_refl _)]; simp
def mkB : Int → List Int → List Int
  | _, [] => []
  | k, _ :: xs => k % 256 :: mkB (k + 1) xs
theorem mkB_len (k : Int) (l : List Int) : (mkB k l).length = l.length := by induction l generalizing k with
  | nil => rfl
  | cons x xs ih => simp [mkB, ih]
theorem markB_loop (rest : List Int) : ∀ (pre : List Int) (k : Int), 0 ≤ k → k + rest.length ≤ 4611686018427387904 → pre.length + rest.length ≤ 4611686018427387904 →
    Ev (fun K => laws_markByteS.l0 K (pre ++ rest) k (pre.length : Int)) (k + rest.length, pre ++ mkB k rest) := by
  induction rest with
  | nil => intro pre k _ _ _; exact Ev.step (fun K => by simp only [laws_markByteS.l0]; rw [if_neg (by simp)]) (by simpa [mkB] using Ev.now _)
  | cons x xs ih =>
    intro pre k h0 h1 h2
    simp only [List.length_cons] at h1 h2
    have ih' := ih (pre ++ [k % 256]) (k + 1) (by omega) (by omega) (by simp; omega)
    rw [show ((pre ++ [k % 256]).length : Int) = wrap64 ((pre.length : Int) + 1) by simp; unfold wrap64; omega] at ih'
    have e : (k + 1 + (xs.length : Int), pre ++ [k % 256] ++ mkB (k + 1) xs) = (k + ((x :: xs).length : Int), pre ++ mkB k (x :: xs)) := by simp [mkB]; omega
    rw [e] at ih'
    exact Ev.step (fun K => by simp only [laws_markByteS.l0]; rw [if_pos (by simp; omega), if_pos (by omega), set_mid, show wrap64 (k + 1) = k + 1 by unfold wrap64; omega]) ih'
theorem markByteS_ev (l : List Int) (k : Int) (h0 : 0 ≤ k) (h1 : k + l.length ≤ 4611686018427387904) : Ev (fun K => laws_markByteS.f K l k) (k + l.length, mkB k l) :=
  markB_loop l [] k h0 h1 (by simp; omega)
theorem heldB_loop (rest : List Int) : ∀ (pre : List Int) (k : Int), 0 ≤ k → k + rest.length ≤ 4611686018427387904 → pre.length + rest.length ≤ 4611686018427387904 →
    Ev (fun K => laws_heldByteS.l0 K (pre ++ mkB k rest) k (pre.length : Int)) (k + rest.length) := by
  induction rest with
  | nil => intro pre k _ _ _; exact Ev.step (fun K => by simp only [laws_heldByteS.l0]; rw [if_neg (by simp [mkB])]) (by simpa using Ev.now _)
  | cons x xs ih =>
    intro pre k h0 h1 h2
    simp only [List.length_cons] at h1 h2
    have ih' := ih (pre ++ [k % 256]) (k + 1) (by omega) (by omega) (by simp; omega)
    rw [show ((pre ++ [k % 256]).length : Int) = wrap64 ((pre.length : Int) + 1) by simp; unfold wrap64; omega, List.append_assoc] at ih'
    have e : (k + 1 + (xs.length : Int)) = k + ((x :: xs).length : Int) := by simp; omega
    rw [e] at ih'
    rw [show mkB k (x :: xs) = k % 256 :: mkB (k + 1) xs from rfl]
    exact Ev.step (fun K => by simp only [laws_heldByteS.l0]; rw [if_pos (by simp [mkB_len]; omega), rd_mid, if_pos rfl, show wrap64 (k + 1) = k + 1 by unfold wrap64; omega]; rfl) ih'
theorem heldByteS_ev (l : List Int) (k : Int) (h0 : 0 ≤ k) (h1 : k + l.length ≤ 4611686018427387904) : Ev (fun K => laws_heldByteS.f K (mkB k l) k) (k + l.length) :=
  heldB_loop l [] k h0 h1 (by simp; omega)

/-! ### laws_markPendS: a text by hand -/
-- needs laws_markByteS.f
def laws_markPendS.l0 : Nat → List (S60) → Int → Int → Option (Int × List (S60))
  | 0, _, _, _ => none
  | k + 1, x0, x1, x5 => if x5 < (x0.length : Int) then (if 0 ≤ x5 then ((laws_markByteS.f k (rd_T60 x0 x5).f1 (wrap64 (x1 + 1))).bind fun b => laws_markPendS.l0 k (x0.set (x5 : Int).toNat (⟨x1, b.2⟩ : S60)) b.1 (wrap64 (x5 + 1))) else none) else some (x1, x0)
def laws_markPendS.f (k : Nat) (l0 : List (S60)) (a1 : Int) : Option (Int × List (S60)) := laws_markPendS.l0 k l0 a1 0
theorem pend_inner {W : World} {base g n cap : Nat} {ok : Nat → Prop} {xs : List S60} (h : Kd.S k60 60 W base ok (.slice (some ⟨g, 0, none⟩) n cap) xs) (i : Int) (h0 : 0 ≤ i) (h1 : i < xs.length) :
    ∃ (vd : Value) (oki : Nat → Prop), W.cell? ⟨g, i.toNat * 2 + 1, none⟩ = some vd ∧ Kd.R (Kd.int .u8) 5 W base oki vd (rd_T60 xs i).f1 ∧ (∀ k, oki k → ok k ∧ k ≠ g) ∧
      ∀ (W' : World) (l' : List Int) (ok' : Nat → Prop), (∀ k, k < W.heap.size → ¬ (some k = vd.ownBlock) → W'.heap[k]? = W.heap[k]?) → Kd.R (Kd.int .u8) 5 W' base ok' vd l' →
        Kd.S k60 60 W' base ok (.slice (some ⟨g, 0, none⟩) n cap) (xs.set i.toNat ⟨(rd_T60 xs i).f0, l'⟩) := by
  have hn := (Kd.S_reads' h).1
  obtain ⟨oki, c, hcl, hM, hcc, _, hoki, hH⟩ := Kd.S_elem h z60 i h0 (by omega)
  obtain ⟨vd, rfl, gd⟩ := k60_openM hM
  refine ⟨vd, oki, hcc 1 _ rfl, gd, hoki, fun W' l' ok' hk hR => ?_⟩
  have hH' := Kd.H_step hH (w1 := W') (fun k _ hn hlt => hk k hlt (fun he => hn (gd.1 k he.symm)))
  exact Kd.H_back hH' (k60_mkM W' base oki ⟨(rd_T60 xs i).f0, l'⟩ (Kd.R_reok rfl hR (fun k hk => gd.1 k hk))) (fun _ hk => hk)
theorem rdset {xs : List S60} {i : Int} {x : S60} (h0 : 0 ≤ i) (h1 : i < xs.length) : rd_T60 (xs.set i.toNat x) i = x := by
  unfold rd_T60
  rw [List.getD_eq_getElem?_getD, List.getElem?_set_self (by omega)]
  rfl
set_option maxHeartbeats 8000000 in
set_option maxRecDepth 100000 in
theorem laws_markPendS.calls (k : Nat) (P0_ : Nat → Prop) (u9000_ : Value) (l0 : List (S60)) (a1 : Int) (r1 : Int) (r2 : List (S60)) (w0 w : World) (hB : Below w0.heap.size w0 w) (ho0 : Kd.S k60 60 w w0.heap.size P0_ u9000_ l0) (h : laws_markPendS.f k l0 a1 = some (r1, r2)) :
    Calls Try.prog 38 #[u9000_, .int .i64 a1] w fun e w' => e = .returned (.int .i64 r1) ∧ Kd.S k60 60 w' w0.heap.size (fun k_ => (P0_ k_ ∨ w.heap.size ≤ k_)) u9000_ r2 ∧ Below w0.heap.size w0 w' ∧ Kept w w' (fun k_ => P0_ k_) := by
  have HO0 := Aside0.mk (show Kd.S k60 60 w w0.heap.size (fun k_ => (P0_ k_ ∨ w.heap.size ≤ k_)) u9000_ l0 from Kd.S_mono ho0 (fun k_ hk => (.inl hk)))
  have HK := Aside0.mk (Kept.refl w (fun k_ => P0_ k_))
  have HW0 := Aside0.mk hB.size
  have HB := Aside0.mk hB
  clear hB
  have H : (laws_markPendS.l0 k l0 a1 0) = some (r1, r2) := h
  clear h
  have H' := Aside0.mk H
  clear H
  go_enter Try.func38, Try.ntmps38
  go_wp2
  go_loopg [1, 5] k (fun kq v1 v5 w' => ∃ (x0_1 : List (S60)) (x1_1 : Int) (x5_1 : Int), v1 = .int .i64 x1_1 ∧ v5 = .int .i64 x5_1 ∧ Aside0 (laws_markPendS.l0 kq x0_1 x1_1 x5_1 = some (r1, r2)) ∧ Aside0 (kq ≤ k) ∧ Aside0 (Kd.S k60 60 w' w0.heap.size (fun k_ => (P0_ k_ ∨ w.heap.size ≤ k_)) u9000_ x0_1) ∧ Aside0 (Kept w w' (fun k_ => P0_ k_)) ∧ Aside0 (Below w0.heap.size w0 w'))
  case atStart => exact ⟨(l0), (a1), (0), (by first | rfl | (simp; done) | (simp [*]; done)), (by first | rfl | (simp; done) | (simp [*]; done)), H', ⟨Nat.le_refl _⟩, ⟨by (with_reducible repeat (first | apply Kd.S_alloc | apply Kd.S_drewN | apply Kd.S_drew)); exact HO0.out⟩, ⟨by repeat (first | (with_reducible first | exact HK.out | apply Kept.alloc | apply Kept.drewN | apply Kept.drew) | exact HK.out)⟩, ⟨by repeat (first | (with_reducible first | exact HB.out | apply below_alloc | apply pw_below_drewN | apply below_drew1) | exact HB.out)⟩⟩
  case round =>
    clear H'
    try clear p2
    obtain ⟨x0_1, x1_1, x5_1, rfl, rfl, HA, HK1, HO_0, HK, HB⟩ := hrel
    cases gk with
    | zero => exact absurd HA.out (by simp [laws_markPendS.l0])
    | succ k1 =>
      have H := HA.out
      clear HA
      simp only [laws_markPendS.l0] at H
      by_cases c3 : x5_1 < (x0_1.length : Int)
      · rw [if_pos c3] at H
        have c3b0 : decide (x5_1 < (x0_1.length : Int)) = true := decide_eq_true c3
        clear c3
        by_cases c4 : 0 ≤ x5_1
        · rw [if_pos c4] at H
          have c4b0 : decide (0 ≤ x5_1) = true := decide_eq_true c4
          clear c4
          replace H := Option.bind_eq_some_iff.mp H
          obtain ⟨⟨b1, b2⟩, HM0, H⟩ := H
          replace H : laws_markPendS.l0 k1 (x0_1.set (x5_1 : Int).toNat (⟨x1_1, b2⟩ : S60)) b1 (wrap64 (x5_1 + 1)) = some (r1, r2) := H
          have HM := Aside0.mk HM0
          clear HM0
          obtain ⟨y128, hy128⟩ : ∃ y_ : List (S60), y_ = (x0_1.set (x5_1 : Int).toNat (⟨x1_1, (rd_T60 x0_1 x5_1).f1⟩ : S60)) := ⟨_, rfl⟩
          have Ny128 := Aside0.mk hy128
          clear hy128
          have H' := Aside0.mk H
          clear H
          obtain ⟨Ao6, co6, eo6⟩ := Kd.S_slice HO_0.out
          subst eo6
          have p5 : 0 ≤ (x5_1 : Int) := of_decide_eq_true (by first | (with_reducible assumption) | assumption)
          have q5 : (x5_1 : Int) < ((x0_1.length : Int) : Int) := of_decide_eq_true (by first | (with_reducible assumption) | assumption)
          obtain ⟨go5, co5, eo5, gb5, gl5, cl5, HG5⟩ := Kd.S_form HO_0.out (by omega)
          (first | cases eo5 | (injection eo5 with ea_ en_ ec_; (first | subst ea_ | (injection ea_ with ea_; subst ea_)); subst ec_; clear en_))
          have GB5 := Aside0.mk gb5
          have GG5 := Aside0.mk HG5
          clear gb5 gl5 HG5
          have HMgo5 := Aside0.mk (show (P0_ go5 ∨ w.heap.size ≤ go5) from ((Kd.S_R HO_0.out).1 _ rfl))
          obtain ⟨_, ce5, hcl5, hM5, hcc5, hfr5, _, _⟩ := Kd.S_elem HO_0.out z60 (x5_1 : Int) p5 q5
          obtain ⟨ve5_1, rfl, ge5_1⟩ := k60_openM hM5
          have hx5_0 : wr.cell? ⟨go5, (x5_1 : Int).toNat * 2, none⟩ = some (.int .i64 ((rd_T60 x0_1 x5_1).f0)) := hcc5 0 _ rfl
          have hx5_1 : wr.cell? ⟨go5, (x5_1 : Int).toNat * 2 + 1, none⟩ = some (ve5_1) := hcc5 1 _ rfl
          have hf5_0 : wr.frozen? ⟨go5, (x5_1 : Int).toNat * 2, none⟩ = false := hfr5 0
          have hf5_1 : wr.frozen? ⟨go5, (x5_1 : Int).toNat * 2 + 1, none⟩ = false := hfr5 1
          clear hcl5 hcc5 hfr5 hM5
          replace p5 := eq_true p5
          replace q5 := eq_true q5
          have HX7 := Aside0.mk (show Kd.S k60 60 wr w0.heap.size (fun k_ => ((fun k_ => (P0_ k_ ∨ w.heap.size ≤ k_))) k_ ∧ ¬ ((fun _ => False)) k_) (.slice (some ⟨go5, 0, none⟩) x0_1.length co6) x0_1 from (by (with_reducible repeat (first | apply Kd.S_alloc | apply Kd.S_drewN | apply Kd.S_drew)); exact Kd.S_mono HO_0.out (fun k_ hk => ⟨hk, fun e_ => e_⟩)))
          obtain ⟨oki7, ce7, hcl7, hM7, hcc7, hfr7, hoki7, hH7⟩ := Kd.S_elem HX7.out z60 (x5_1 : Int) (of_decide_eq_true (by first | (with_reducible assumption) | assumption)) (by have h_ : (x5_1 : Int) < ((x0_1.length : Int) : Int) := of_decide_eq_true (by first | (with_reducible assumption) | assumption); first | exact h_ | (have e_ := (Kd.S_reads' HO_0.out).1; omega) | simpa using h_)
          obtain ⟨ve7_1, rfl, ge7_1⟩ := k60_openM hM7
          have HP7 := Kd.S_seg hH7 (of_decide_eq_true (by first | (with_reducible assumption) | assumption)) (by have h_ : (x5_1 : Int) < ((x0_1.length : Int) : Int) := of_decide_eq_true (by first | (with_reducible assumption) | assumption); first | exact h_ | (have e_ := (Kd.S_reads' HO_0.out).1; omega) | simpa using h_) (seg := [.int .i64 x1_1]) (j := 0) (show 1 ≤ 2 from by decide) (x' := (⟨x1_1, (rd_T60 x0_1 x5_1).f1⟩ : S60)) (k60_mkM _ _ _ (⟨x1_1, (rd_T60 x0_1 x5_1).f1⟩ : S60) (Kd.R_mono ge7_1 (fun _ h_ => Or.inl h_))) (fun _ hk => hk) (fun k_ hk_ => hk_.elim)
          have hx7_0 := hcc7 0 _ rfl
          (try simp only [show (k60).sz = 2 from rfl, Nat.mul_one, Nat.add_zero] at hx7_0)
          have hf7_0 := hfr7 0
          (try simp only [show (k60).sz = 2 from rfl, Nat.mul_one, Nat.add_zero] at hf7_0)
          clear hcl7 hcc7 hfr7 hM7 hoki7 hH7
          go_wp2_with (first | ((with_reducible refine gate_store (t := 2) (p := 16) rfl ?_); refine store_event (t := 2) (p := 16) (v := ?vo_w8) (w1 := (wr.setCell ⟨go5, (x5_1 : Int).toNat * 2, none⟩ (.int .i64 x1_1))) ?hg ?ho ?hn ?hr ?_; (case ho => rfl); (case hg => rfl); (case hn => rfl); (case hr => first | (go_simp; done) | (go_simp; rfl)); intro w8 hw; have hg : wr.grownBy w8 (some go5) := (by rw [hw]; exact HP7.2); have hp_ : Kd.S k60 60 w8 w0.heap.size (fun k_ => (P0_ k_ ∨ w.heap.size ≤ k_)) (.slice (some ⟨go5, 0, none⟩) x0_1.length co6) y128 := (by rw [hw, Ny128.out]; exact HP7.1); clear HP7; have n0_ := Aside0.mk (hp_); have n1_ := Aside0.mk ((by rw [hw]; exact below_set (HB.out) GB5.out : Below w0.heap.size w0 w8)); have n2_ := Aside0.mk (Kept.of_grown (S := (fun k_ => P0_ k_)) hg (by repeat (first | (with_reducible first | exact HK.out | apply Kept.alloc | apply Kept.drewN | apply Kept.drew) | exact HK.out)) (fun k_ e_ => ((Kd.S_R HO_0.out).1 k_ e_))); clear HO_0; clear HB; clear HK; have HO_0 := n0_; have HB := n1_; have HK := n2_; clear n0_ n1_ n2_; clear hg hw hp_; (have ex0 := Aside0.mk (show rd_T60 y128 x5_1 = ⟨x1_1, (rd_T60 x0_1 x5_1).f1⟩ from by rw [Ny128.out]; exact rdset (of_decide_eq_true c4b0) (of_decide_eq_true c3b0))); (have hl_ : x0_1.length = y128.length := by rw [Ny128.out, List.length_set]); (obtain ⟨vd, oki, hx8, gd, hoki, hback⟩ := pend_inner HO_0.out x5_1 (of_decide_eq_true c4b0) (by have := of_decide_eq_true c3b0; omega)); clear hl_))
          rw [ex0.out] at gd
          refine (laws_markByteS.calls k1 (fun k_ => some k_ = vd.ownBlock) vd _ _ b1 b2 w0 w8 HB.out (Kd.R_tight rfl gd) HM.out).mono ?_
          rintro e w9 ⟨rfl, hR, hB9, hK9⟩
          have n0_ := Aside0.mk hB9
          have n1_ := Aside0.mk (show Kept w w9 (fun k_ => P0_ k_) from ⟨Nat.le_trans HK.out.1 hK9.1, fun j hj hn => (hK9.2 j (Nat.lt_of_lt_of_le hj HK.out.1) (fun he => ((hoki j (gd.1 j he.symm)).1).elim hn (fun h2 => absurd h2 (Nat.not_le.2 hj)))).trans (HK.out.2 j hj hn)⟩)
          have hS := hback w9 b2 _ (fun k hlt hn => hK9.2 k hlt hn) hR
          rw [ex0.out, Ny128.out, List.set_set] at hS
          have n2_ := Aside0.mk hS
          clear hR hB9 hK9 hS hback hoki gd ex0 HO_0 HB HK
          have HB := n0_
          have HK := n1_
          have HO_0 := n2_
          clear n0_ n1_ n2_ HX7 Ny128

          go_wp2
          go_roundg k1
          case measure => have := HK1.out; omega
          case rel => exact ⟨_, _, _, rfl, rfl, H', ⟨by have := HK1.out; omega⟩, HO_0, HK, HB⟩
        · rw [if_neg c4] at H
          exact absurd H (by simp)
      · rw [if_neg c3] at H
        have c3b0 : decide (x5_1 < (x0_1.length : Int)) = false := decide_eq_false c3
        clear c3
        simp only [Option.some.injEq, Prod.mk.injEq] at H
        obtain ⟨rfl, rfl⟩ := H
        obtain ⟨Ao9, co9, eo9⟩ := Kd.S_slice HO_0.out
        subst eo9
        go_wp2
        go_ret
        exact ⟨by first | rfl | (simp [errW_none, errW_some] <;> rfl) | (simp [*, errW_none, errW_some] <;> rfl), by (with_reducible repeat (first | apply Kd.S_alloc | apply Kd.S_drewN | apply Kd.S_drew)); exact HO_0.out, by repeat (first | (with_reducible first | exact HB.out | apply below_alloc | apply pw_below_drewN | apply below_drew1) | exact HB.out), by repeat (first | (with_reducible first | exact HK.out | apply Kept.alloc | apply Kept.drewN | apply Kept.drew) | exact HK.out)⟩

/-! ### L_markDisk: a text by hand -/
-- needs laws_szPendS.f laws_heldDisk.f laws_markByteS.f
def mkP : Int → List S60 → Int × List S60
  | k, [] => (k, [])
  | k, x :: xs => ((mkP (k + 1 + x.f1.length) xs).1, ⟨k, mkB (k + 1) x.f1⟩ :: (mkP (k + 1 + x.f1.length) xs).2)
theorem mkP_bd (l : List S60) (hl : ∀ x ∈ l, x.f1.length ≤ 1048576) : ∀ k : Int, k ≤ (mkP k l).1 ∧ (mkP k l).1 ≤ k + 1048577 * l.length := by
  induction l with
  | nil => intro k; simp [mkP]
  | cons x xs ih =>
    intro k
    have h := ih (fun y hy => hl y (List.mem_cons_of_mem _ hy)) (k + 1 + x.f1.length)
    have hx := hl x List.mem_cons_self
    simp only [mkP, List.length_cons]
    omega
theorem mkP_len (k : Int) (l : List S60) : (mkP k l).2.length = l.length := by induction l generalizing k with
  | nil => rfl
  | cons x xs ih => simp [mkP, ih]
theorem rd_midP (pre : List S60) (x : S60) (rest : List S60) : rd_T60 (pre ++ x :: rest) (pre.length : Int) = x := by unfold rd_T60; rw [Int.toNat_natCast, List.getD_eq_getElem?_getD, List.getElem?_append_right (Nat.le_refl _)]; simp
theorem markP_loop (rest : List S60) (hl : ∀ x ∈ rest, x.f1.length ≤ 1048576) : ∀ (pre : List S60) (k : Int), 0 ≤ k → k + 1048577 * rest.length ≤ 4611686018427387904 → pre.length + rest.length ≤ 4611686018427387904 →
    Ev (fun K => laws_markPendS.l0 K (pre ++ rest) k (pre.length : Int)) ((mkP k rest).1, pre ++ (mkP k rest).2) := by
  induction rest with
  | nil => intro pre k _ _ _; exact Ev.step (fun K => by simp only [laws_markPendS.l0]; rw [if_neg (by simp)]) (by simpa [mkP] using Ev.now _)
  | cons x xs ih =>
    intro pre k h0 h1 h2
    have hx := hl x List.mem_cons_self
    simp only [List.length_cons] at h1 h2
    have ih' := ih (fun y hy => hl y (List.mem_cons_of_mem _ hy)) (pre ++ [⟨k, mkB (k + 1) x.f1⟩]) (k + 1 + x.f1.length) (by omega) (by omega) (by simp; omega)
    rw [show ((pre ++ [(⟨k, mkB (k + 1) x.f1⟩ : S60)]).length : Int) = wrap64 ((pre.length : Int) + 1) by simp; unfold wrap64; omega] at ih'
    have e : ((mkP (k + 1 + x.f1.length) xs).1, pre ++ [(⟨k, mkB (k + 1) x.f1⟩ : S60)] ++ (mkP (k + 1 + x.f1.length) xs).2) = ((mkP k (x :: xs)).1, pre ++ (mkP k (x :: xs)).2) := by simp [mkP]
    rw [e] at ih'
    refine Ev.step (fun K => by simp only [laws_markPendS.l0]; rw [if_pos (by simp; omega), if_pos (by omega), rd_midP, show wrap64 (k + 1) = k + 1 by unfold wrap64; omega]) (Ev.bind (markByteS_ev x.f1 (k + 1) (by omega) (by omega)) ?_)
    exact Ev.congr (fun K => by rw [set_mid]) ih'
theorem markPendS_ev (l : List S60) (hl : ∀ x ∈ l, x.f1.length ≤ 1048576) (k : Int) (h0 : 0 ≤ k) (h1 : k + 1048577 * l.length ≤ 4611686018427387904) : Ev (fun K => laws_markPendS.f K l k) (mkP k l) :=
  markP_loop l hl [] k h0 h1 (by simp; omega)
theorem heldP_loop (rest : List S60) (hl : ∀ x ∈ rest, x.f1.length ≤ 1048576) : ∀ (pre : List S60) (k : Int), 0 ≤ k → k + 1048577 * rest.length ≤ 4611686018427387904 → pre.length + rest.length ≤ 4611686018427387904 →
    Ev (fun K => laws_heldPendS.l0 K (pre ++ (mkP k rest).2) k (pre.length : Int)) (mkP k rest).1 := by
  induction rest with
  | nil => intro pre k _ _ _; exact Ev.step (fun K => by simp only [laws_heldPendS.l0]; rw [if_neg (by simp [mkP])]) (by simpa [mkP] using Ev.now _)
  | cons x xs ih =>
    intro pre k h0 h1 h2
    have hx := hl x List.mem_cons_self
    simp only [List.length_cons] at h1 h2
    have ih' := ih (fun y hy => hl y (List.mem_cons_of_mem _ hy)) (pre ++ [⟨k, mkB (k + 1) x.f1⟩]) (k + 1 + x.f1.length) (by omega) (by omega) (by simp; omega)
    rw [show ((pre ++ [(⟨k, mkB (k + 1) x.f1⟩ : S60)]).length : Int) = wrap64 ((pre.length : Int) + 1) by simp; unfold wrap64; omega, List.append_assoc] at ih'
    have hb := heldByteS_ev x.f1 (k + 1) (by omega) (by omega)
    rw [show (mkP k (x :: xs)).2 = ⟨k, mkB (k + 1) x.f1⟩ :: (mkP (k + 1 + x.f1.length) xs).2 from rfl, show (mkP k (x :: xs)).1 = (mkP (k + 1 + x.f1.length) xs).1 from rfl]
    refine Ev.step (fun K => by simp only [laws_heldPendS.l0]; rw [if_pos (by simp [mkP_len]; omega), rd_midP, if_pos rfl, show wrap64 (k + 1) = k + 1 by unfold wrap64; omega, if_pos (by omega)]) (Ev.bind hb ?_)
    exact Ev.congr (fun K => by rw [if_neg (by omega)]; rfl) ih'
theorem heldPendS_ev (l : List S60) (hl : ∀ x ∈ l, x.f1.length ≤ 1048576) (k : Int) (h0 : 0 ≤ k) (h1 : k + 1048577 * l.length ≤ 4611686018427387904) : Ev (fun K => laws_heldPendS.f K (mkP k l).2 k) (mkP k l).1 :=
  heldP_loop l hl [] k h0 h1 (by simp; omega)
theorem heldDisk_ev (l0 : List Int) (l1 : List S60) (a2 : Int) (a3 : Bool) (h0 : l0.length ≤ 1048576) (hl : okPendS l1) : Ev (fun K => laws_heldDisk.f K (mkB 1 l0) (mkP (1 + l0.length) l1).2 a2 a3 1) (mkP (1 + l0.length) l1).1 := by
  have h1 := hl.1
  have hb := mkP_bd l1 hl.2 (1 + l0.length)
  unfold laws_heldDisk.f
  refine Ev.bind (heldByteS_ev l0 1 (by omega) (by omega)) ?_
  refine Ev.congr (fun K => by rw [if_neg (by omega)]) (Ev.bind (heldPendS_ev l1 hl.2 _ (by omega) (by omega)) ?_)
  exact Ev.congr (fun K => by rw [if_neg (by omega)]) (Ev.now _)

/-! ### laws_markBoolS2: a text by hand -/
-- needs laws_markBoolS.f
theorem laws_markBoolS.own (k lo hi : Nat) (v : Value) (l : List Bool) (m0 m1 : Int) (l' : List Bool) (w0 w : World) {ok : Nat → Prop} (hle : w0.heap.size ≤ lo) (hB : Below w0.heap.size w0 w)
    (ho : Kd.R Kd.bool 4 w w0.heap.size (fun k => (lo ≤ k ∧ k < hi) ∧ ok k) v l) (h : laws_markBoolS.f k l m0 = some (m1, l')) :
    Calls Try.prog 33 #[v, .int .i64 m0] w fun e w' => e = .returned (.int .i64 m1) ∧ Kd.R Kd.bool 4 w' w0.heap.size (fun k => (lo ≤ k ∧ k < hi) ∧ ok k) v l' ∧ Below w0.heap.size w0 w' ∧ Kept w w' (fun k => lo ≤ k ∧ k < hi) :=
  (laws_markBoolS.calls k (fun k => (lo ≤ k ∧ k < hi) ∧ ok k) v l m0 m1 l' w0 w hB ho h).mono fun e w' hh => ⟨hh.1, Kd.R_reok rfl hh.2.1 (fun k hk => ho.1 k hk), hh.2.2.1, hh.2.2.2.mono (fun k hk => hk.1)⟩

/-! ### laws_markDisk: a text by hand -/
-- needs laws_markByteS.f
set_option maxHeartbeats 1000000 in
set_option maxRecDepth 100000 in
theorem laws_markDisk.calls (k1 k2 : Nat) (P0 P1 : Nat → Prop) (v0 v1 : Value) (l0 : List Int) (l1 : List S60) (a2 : Int) (a3 : Bool) (a1 b1 : Int) (b2 : List Int) (r1 : Int) (r2 : List S60) (w0 w : World)
    (hB : Below w0.heap.size w0 w) (ho0 : Kd.R (Kd.int .u8) 5 w w0.heap.size P0 v0 l0) (ho1 : Kd.S k60 60 w w0.heap.size P1 v1 l1) (hp : ∀ k, P0 k → ¬ P1 k)
    (h1 : laws_markByteS.f k1 l0 a1 = some (b1, b2)) (h2 : laws_markPendS.f k2 l1 b1 = some (r1, r2)) :
    Calls Try.prog 13 #[.agg #[v0, v1, .int .i64 a2, .bool a3], .int .i64 a1] w fun e w' => e = .returned (.int .i64 r1) ∧ Kd.R (Kd.int .u8) 5 w' w0.heap.size P0 v0 b2 ∧
      Kd.S k60 60 w' w0.heap.size (fun k => P1 k ∨ w.heap.size ≤ k) v1 r2 ∧ Below w0.heap.size w0 w' ∧ Kept w w' (fun k => P0 k ∨ P1 k) := by
  have H1 := Aside0.mk h1
  have H2 := Aside0.mk h2
  have HB := Aside0.mk hB
  have HO0 := Aside0.mk ho0
  have HO1 := Aside0.mk ho1
  have HP := Aside0.mk hp
  clear h1 h2 hB ho0 ho1 hp
  have hu := Try.underlying25
  obtain ⟨A0, c0, rfl⟩ := Kd.R_slice HO0.out
  obtain ⟨A1, c1, rfl⟩ := Kd.S_slice HO1.out
  go_enter Try.func13, Try.ntmps13
  go_wp2_with fail
  have hlt0 := Kd.R_lt HO0.out
  have hS1 := Kd.S_mono (ok' := fun k => P1 k ∧ k < w.heap.size) (Kd.S_bound HO1.out) (fun k hk => ⟨hk.1, hk.2.2.1⟩)
  refine (laws_markByteS.calls k1 (fun k => some k = (Value.slice A0 l0.length c0).ownBlock) _ _ _ b1 b2 w0 _ (below_allocB HB.out HB.out.size _) (Kd.R_alloc (Kd.R_tight rfl HO0.out) _) H1.out).mono ?_
  rintro e w1 ⟨rfl, hR, hB1, hK1⟩
  have G0 := blk_kept (blk_new w _) hK1 (fun he => absurd (hlt0 _ he.symm) (Nat.lt_irrefl _))
  have hx := blk_cell G0 1
  have hx1 : w1.cell? ⟨w.heap.size, 1, none⟩ = some (.slice A1 l1.length c1) := hx.trans rfl
  clear hx
  have hR' := Aside0.mk (Kd.R_reok rfl hR (fun k hk => HO0.out.1 k hk))
  have hS' := Aside0.mk (Kd.S_kept (Kd.S_alloc hS1 _) hK1 (fun k hk he => HP.out k (HO0.out.1 k he.symm) hk.1))
  have hz1 := Aside0.mk hK1.1
  have HK1 := Aside0.mk (show Kept w w1 (fun k => P0 k ∨ P1 k) from (Kept.alloc (Kept.refl w _) _).then_ hK1 (fun k hk => .inl (.inl (HO0.out.1 k hk.symm))))
  have HB1 := Aside0.mk hB1
  clear hR hB1 hK1 G0 hlt0 hS1
  go_wp2_with fail
  refine (laws_markPendS.calls k2 (fun k => P1 k ∧ k < w.heap.size) _ _ _ r1 r2 w0 _ HB1.out hS'.out H2.out).mono ?_
  rintro e w2 ⟨rfl, hS, hB2, hK2⟩
  have n0 := Aside0.mk (Kd.R_kept hR'.out hK2 (fun k hk he => HP.out k hk he.1))
  have n1 := Aside0.mk (Kd.S_mono (ok' := fun k => P1 k ∨ w.heap.size ≤ k) hS (fun k hk => hk.imp (fun h => h.1) (fun h => by have := HK1.out.1; omega)))
  have n2 := Aside0.mk hB2
  have n3 := Aside0.mk (HK1.out.then_ hK2 (fun k hk => .inl (.inr hk.1)))
  clear hS hB2 hK2
  go_wp2
  go_ret
  exact ⟨rfl, n0.out, n1.out, n2.out, n3.out⟩

/-! ### laws_markDisk2: a text by hand -/
-- needs laws_markByteS.f
theorem laws_markByteS.own (k lo hi : Nat) (v : Value) (l : List Int) (m0 m1 : Int) (l' : List Int) (w0 w : World) {ok : Nat → Prop} (hle : w0.heap.size ≤ lo) (hB : Below w0.heap.size w0 w)
    (ho : Kd.R (Kd.int .u8) 5 w w0.heap.size (fun k => (lo ≤ k ∧ k < hi) ∧ ok k) v l) (h : laws_markByteS.f k l m0 = some (m1, l')) :
    Calls Try.prog 22 #[v, .int .i64 m0] w fun e w' => e = .returned (.int .i64 m1) ∧ Kd.R (Kd.int .u8) 5 w' w0.heap.size (fun k => (lo ≤ k ∧ k < hi) ∧ ok k) v l' ∧ Below w0.heap.size w0 w' ∧ Kept w w' (fun k => lo ≤ k ∧ k < hi) :=
  (laws_markByteS.calls k (fun k => (lo ≤ k ∧ k < hi) ∧ ok k) v l m0 m1 l' w0 w hB ho h).mono fun e w' hh => ⟨hh.1, Kd.R_reok rfl hh.2.1 (fun k hk => ho.1 k hk), hh.2.2.1, hh.2.2.2.mono (fun k hk => hk.1)⟩
theorem laws_markDisk.own (k1 k2 lo hi : Nat) (v0 v1 : Value) (a2 : Int) (a3 : Bool) (l0 : List Int) (l1 : List S60) (m0 m1 m2 : Int) (l0' : List Int) (l1' : List S60) (w0 w : World) {ok0 : Nat → Prop} (hle : w0.heap.size ≤ lo) (hB : Below w0.heap.size w0 w)
    (ho0 : Kd.R (Kd.int .u8) 5 w w0.heap.size (fun k => (lo ≤ k ∧ k < hi) ∧ ok0 k) v0 l0) (ho1 : Kd.S k60 60 w w0.heap.size (fun k => (lo ≤ k ∧ k < hi) ∧ some k ≠ v0.ownBlock) v1 l1)
    (h1 : laws_markByteS.f k1 l0 m0 = some (m1, l0')) (h2 : laws_markPendS.f k2 l1 m1 = some (m2, l1')) :
    Calls Try.prog 13 #[.agg #[v0, v1, .int .i64 a2, .bool a3], .int .i64 m0] w fun e w' => e = .returned (.int .i64 m2) ∧ Kd.R (Kd.int .u8) 5 w' w0.heap.size (fun k => (lo ≤ k ∧ k < hi) ∧ some k = v0.ownBlock) v0 l0' ∧
      Kd.S k60 60 w' w0.heap.size (fun k => ((lo ≤ k ∧ k < hi) ∧ some k ≠ v0.ownBlock) ∨ w.heap.size ≤ k) v1 l1' ∧ Below w0.heap.size w0 w' ∧ Kept w w' (fun k => lo ≤ k ∧ k < hi) :=
  (laws_markDisk.calls k1 k2 (fun k => (lo ≤ k ∧ k < hi) ∧ some k = v0.ownBlock) (fun k => (lo ≤ k ∧ k < hi) ∧ some k ≠ v0.ownBlock) v0 v1 l0 l1 a2 a3 m0 m1 l0' m2 l1' w0 w hB (Kd.R_reok rfl ho0 (fun k hk => ⟨(ho0.1 k hk).1, hk.symm⟩)) ho1 (fun k a b => b.2 a.2) h1 h2).mono
    fun e w' hh => ⟨hh.1, hh.2.1, hh.2.2.1, hh.2.2.2.1, hh.2.2.2.2.mono (fun k hk => hk.elim (fun h => h.1) (fun h => h.1))⟩

/-! ### zguard1_DiskCrash: a text by hand -/
-- needs laws_szDisk.f
set_option maxHeartbeats 4000000 in
set_option maxRecDepth 100000 in
theorem guard1_FnExactDiskCrash (A0_0 : Option Addr) (c0_0 : Nat) (l0_0 : List Int) (A0_1 : Option Addr) (c0_1 : Nat) (l0_1 : List S78) (a0_2 : Int) (a0_3 : Bool) (A1 : Option Addr) (c1 : Nat) (l1 : List Bool) (r1 : Int) (w : World)
    (hr0_0 : Kd.C (Kd.int .u8) w A0_0 l0_0.length l0_0) (hc0_0 : l0_0.length ≤ c0_0) (hr0_1 : Kd.C k78 w A0_1 l0_1.length l0_1) (hc0_1 : l0_1.length ≤ c0_1) (hr1 : Kd.C Kd.bool w A1 l1.length l1) (hc1 : l1.length ≤ c1)
    (E2 : Ev (fun k => laws_szDisk.f k l0_0 l0_1 a0_2 a0_3 1048576) r1) (E2p : r1 < 0) (G1 : l1.length ≤ 1048576) :
    Calls Try.prog 8 #[.agg #[.slice A0_0 l0_0.length c0_0, .slice A0_1 l0_1.length c0_1, .int .i64 a0_2, .bool a0_3], .slice A1 l1.length c1] w fun e w' => e = .returned (.bool true) ∧ Below w.heap.size w w' := by
  obtain ⟨k_E2, h_E2⟩ := E2.rounds
  have H_E2 := Aside0.mk h_E2
  clear E2 h_E2
  have E2pb : decide (r1 < 0) = true := decide_eq_true (by omega)
  have HR0_0 := Aside0.mk hr0_0
  have HC0_0 := Aside0.mk hc0_0
  clear hr0_0 hc0_0
  have HR0_1 := Aside0.mk hr0_1
  have HC0_1 := Aside0.mk hc0_1
  clear hr0_1 hc0_1
  have HR1 := Aside0.mk hr1
  have HC1 := Aside0.mk hc1
  clear hr1 hc1
  have hu32 := Try.underlying32
  have HB := Aside0.mk (Below.refl w.heap.size w)
  go_enter Try.func8, Try.ntmps8
  go_wp2_with fail
  refine (laws_szDisk.calls k_E2 _ _ l0_0 _ _ l0_1 a0_2 a0_3 1048576 r1 _ (Kd.C_below HR0_0.out (below_alloc HB.out _)) HC0_0.out (Kd.C_below HR0_1.out (below_alloc HB.out _)) HC0_1.out H_E2.out).mono ?_
  rintro e w1 ⟨rfl, gb⟩
  have hz1 : w.heap.size + 1 ≤ w1.heap.size := by have := gb.size; first | omega | (simp at this; omega)
  have N_HB := Aside0.mk (below_step (below_alloc HB.out _) gb)
  have K2 := Aside0.mk (show w1.heap[w.heap.size]? = some (.cells #[.slice A0_0 l0_0.length c0_0, .slice A0_1 l0_1.length c0_1, .int .i64 a0_2, .bool a0_3] 32 (0, 0)) from by have := blk_below (blk_new _ _) gb; simpa using this)
  clear HB
  have HB := N_HB
  clear N_HB
  clear gb
  go_wp2
  go_ret
  exact ⟨rfl, by first | exact HB.out | exact below_alloc HB.out _ | exact below_alloc (below_alloc HB.out _) _ | exact below_alloc (below_alloc (below_alloc HB.out _) _) _⟩

/-! ### zguardL1_DiskCrash: a text by hand -/
-- needs 
set_option maxHeartbeats 4000000 in
set_option maxRecDepth 100000 in
theorem guardL1_FnExactDiskCrash (A0_0 : Option Addr) (c0_0 : Nat) (l0_0 : List Int) (A0_1 : Option Addr) (c0_1 : Nat) (l0_1 : List S78) (a0_2 : Int) (a0_3 : Bool) (A1 : Option Addr) (c1 : Nat) (l1 : List Bool)  (w : World)
    (hr0_0 : Kd.C (Kd.int .u8) w A0_0 l0_0.length l0_0) (hc0_0 : l0_0.length ≤ c0_0) (hr0_1 : Kd.C k78 w A0_1 l0_1.length l0_1) (hc0_1 : l0_1.length ≤ c0_1) (hr1 : Kd.C Kd.bool w A1 l1.length l1) (hc1 : l1.length ≤ c1)
     (G1 : 1048576 < l1.length) :
    Calls Try.prog 8 #[.agg #[.slice A0_0 l0_0.length c0_0, .slice A0_1 l0_1.length c0_1, .int .i64 a0_2, .bool a0_3], .slice A1 l1.length c1] w fun e w' => e = .returned (.bool true) ∧ Below w.heap.size w w' := by
  have HR0_0 := Aside0.mk hr0_0
  have HC0_0 := Aside0.mk hc0_0
  clear hr0_0 hc0_0
  have HR0_1 := Aside0.mk hr0_1
  have HC0_1 := Aside0.mk hc0_1
  clear hr0_1 hc0_1
  have HR1 := Aside0.mk hr1
  have HC1 := Aside0.mk hc1
  clear hr1 hc1
  have HB := Aside0.mk (Below.refl w.heap.size w)
  go_enter Try.func8, Try.ntmps8
  go_wp2
  go_ret
  exact ⟨rfl, by first | exact HB.out | exact below_alloc HB.out _ | exact below_alloc (below_alloc HB.out _) _ | exact below_alloc (below_alloc (below_alloc HB.out _) _) _⟩

/-! ### zwalk_DiskCrash: a text by hand -/
-- needs laws_eqBoolS.f laws_eqDisk.f laws_heldDisk.f laws_szDisk.f laws_toBoolS.f laws_toDisk.f m_DiskCrash.f spec_DiskCrash.f
set_option maxHeartbeats 4000000 in
set_option maxRecDepth 100000 in
theorem walk_FnExactDiskCrash (A0_0 : Option Addr) (c0_0 : Nat) (l0_0 : List Int) (A0_1 : Option Addr) (c0_1 : Nat) (l0_1 : List S78) (a0_2 : Int) (a0_3 : Bool) (A1 : Option Addr) (c1 : Nat) (l1 : List Bool) (r1 : Int) (r3 : List Int) (r4 : List S60) (r5 : Int) (r6 : Bool) (r9 : List Bool) (r12 : List Int) (r13 : List S60) (r14 : Int) (r15 : Bool) (m27 : Int) (l28 : List Int) (m30 : Int) (l31 : List S60) (m33 : Int) (l34 : List Bool) (m36 : Int) (l37 : List Int) (m39 : Int) (l40 : List S60) (w : World)
    (hr0_0 : Kd.C (Kd.int .u8) w A0_0 l0_0.length l0_0) (hc0_0 : l0_0.length ≤ c0_0) (hr0_1 : Kd.C k78 w A0_1 l0_1.length l0_1) (hc0_1 : l0_1.length ≤ c0_1) (hr1 : Kd.C Kd.bool w A1 l1.length l1) (hc1 : l1.length ≤ c1)
    (E2 : Ev (fun k => laws_szDisk.f k l0_0 l0_1 a0_2 a0_3 1048576) r1) (E2p : 0 ≤ r1) (E7 : Ev (fun k => laws_toDisk.f k l0_0 l0_1 a0_2 a0_3) (r3, r4, r5, r6)) (E10 : Ev (fun k => laws_toBoolS.f k l1) r9) (E16 : Ev (fun k => spec_DiskCrash.f k r3 r4 r5 r6 r9) (r12, r13, r14, r15)) (E20 : m_DiskCrash.f r3 r4 r5 r6 r9 = some (r12, r13, r14, r15)) (E22 : Ev (fun k => laws_eqDisk.f k r12 r13 r14 r15 r12 r13 r14 r15) true) (E24 : Ev (fun k => laws_eqDisk.f k r3 r4 r5 r6 r3 r4 r5 r6) true) (E26 : Ev (fun k => laws_eqBoolS.f k r9 r9) true) (E29 : Ev (fun k => laws_markByteS.f k r3 1) (m27, l28)) (E32 : Ev (fun k => laws_markPendS.f k r4 m27) (m30, l31)) (Pm30 : 0 ≤ m30) (E35 : Ev (fun k => laws_markBoolS.f k r9 m30) (m33, l34)) (Pm33 : 0 ≤ m33) (E38 : Ev (fun k => laws_markByteS.f k r12 1) (m36, l37)) (E41 : Ev (fun k => laws_markPendS.f k r13 m36) (m39, l40)) (Pm39 : 0 ≤ m39) (E42 : Ev (fun k => laws_heldDisk.f k l37 l40 r14 r15 1) m39) (G1 : l1.length ≤ 1048576) :
    Calls Try.prog 8 #[.agg #[.slice A0_0 l0_0.length c0_0, .slice A0_1 l0_1.length c0_1, .int .i64 a0_2, .bool a0_3], .slice A1 l1.length c1] w fun e w' => e = .returned (.bool true) ∧ Below w.heap.size w w' := by
  obtain ⟨k_E2, h_E2⟩ := E2.rounds
  have H_E2 := Aside0.mk h_E2
  clear E2 h_E2
  obtain ⟨k_E7, h_E7⟩ := E7.rounds
  have H_E7 := Aside0.mk h_E7
  clear E7 h_E7
  obtain ⟨k_E10, h_E10⟩ := E10.rounds
  have H_E10 := Aside0.mk h_E10
  clear E10 h_E10
  obtain ⟨k_E16, h_E16⟩ := E16.rounds
  have H_E16 := Aside0.mk h_E16
  clear E16 h_E16
  have h_E20 := E20
  have H_E20 := Aside0.mk h_E20
  clear E20 h_E20
  obtain ⟨k_E22, h_E22⟩ := E22.rounds
  have H_E22 := Aside0.mk h_E22
  clear E22 h_E22
  obtain ⟨k_E24, h_E24⟩ := E24.rounds
  have H_E24 := Aside0.mk h_E24
  clear E24 h_E24
  obtain ⟨k_E26, h_E26⟩ := E26.rounds
  have H_E26 := Aside0.mk h_E26
  clear E26 h_E26
  obtain ⟨k_E29, h_E29⟩ := E29.rounds
  have H_E29 := Aside0.mk h_E29
  clear E29 h_E29
  obtain ⟨k_E32, h_E32⟩ := E32.rounds
  have H_E32 := Aside0.mk h_E32
  clear E32 h_E32
  obtain ⟨k_E35, h_E35⟩ := E35.rounds
  have H_E35 := Aside0.mk h_E35
  clear E35 h_E35
  obtain ⟨k_E38, h_E38⟩ := E38.rounds
  have H_E38 := Aside0.mk h_E38
  clear E38 h_E38
  obtain ⟨k_E41, h_E41⟩ := E41.rounds
  have H_E41 := Aside0.mk h_E41
  clear E41 h_E41
  obtain ⟨k_E42, h_E42⟩ := E42.rounds
  have H_E42 := Aside0.mk h_E42
  clear E42 h_E42
  have E2pb : decide (r1 < 0) = false := decide_eq_false (by omega)
  have Pm30b : decide (m30 < 0) = false := decide_eq_false (by omega)
  have Pm33b : decide (m33 < 0) = false := decide_eq_false (by omega)
  have Pm39b : decide (m39 < 0) = false := decide_eq_false (by omega)
  have HR0_0 := Aside0.mk hr0_0
  have HC0_0 := Aside0.mk hc0_0
  clear hr0_0 hc0_0
  have HR0_1 := Aside0.mk hr0_1
  have HC0_1 := Aside0.mk hc0_1
  clear hr0_1 hc0_1
  have HR1 := Aside0.mk hr1
  have HC1 := Aside0.mk hc1
  clear hr1 hc1
  have hu25 := Try.underlying25
  have hu32 := Try.underlying32
  have HB := Aside0.mk (Below.refl w.heap.size w)
  go_enter Try.func8, Try.ntmps8
  go_wp2_with fail
  refine (laws_szDisk.calls k_E2 _ _ l0_0 _ _ l0_1 a0_2 a0_3 1048576 r1 _ (Kd.C_below HR0_0.out (below_alloc HB.out _)) HC0_0.out (Kd.C_below HR0_1.out (below_alloc HB.out _)) HC0_1.out H_E2.out).mono ?_
  rintro e w1 ⟨rfl, gb⟩
  have hz1 : w.heap.size + 1 ≤ w1.heap.size := by have := gb.size; first | omega | (simp at this; omega)
  have N_HB := Aside0.mk (below_step (below_alloc HB.out _) gb)
  have K2 := Aside0.mk (show w1.heap[w.heap.size]? = some (.cells #[.slice A0_0 l0_0.length c0_0, .slice A0_1 l0_1.length c0_1, .int .i64 a0_2, .bool a0_3] 32 (0, 0)) from by have := blk_below (blk_new _ _) gb; simpa using this)
  clear HB
  have HB := N_HB
  clear N_HB
  clear gb
  have y2 : w.heap.size < w1.heap.size := by omega
  have z2_0 : w1.cell? ⟨w.heap.size, 0, none⟩ = some (.slice A0_0 l0_0.length c0_0) := (blk_cell K2.out 0).trans rfl
  have z2_1 : w1.cell? ⟨w.heap.size, 1, none⟩ = some (.slice A0_1 l0_1.length c0_1) := (blk_cell K2.out 1).trans rfl
  have z2_2 : w1.cell? ⟨w.heap.size, 2, none⟩ = some (.int .i64 a0_2) := (blk_cell K2.out 2).trans rfl
  have z2_3 : w1.cell? ⟨w.heap.size, 3, none⟩ = some (.bool a0_3) := (blk_cell K2.out 3).trans rfl
  go_wp2_with fail
  clear y2 z2_0 z2_1 z2_2 z2_3
  refine (laws_toDisk.calls k_E7 _ _ l0_0 _ _ l0_1 a0_2 a0_3 r3 r4 r5 r6 _ (Kd.C_below HR0_0.out HB.out) HC0_0.out (Kd.C_below HR0_1.out HB.out) HC0_1.out H_E7.out).mono ?_
  rintro e w2 ⟨q8u0, q8u1, rfl, q8g0, q8g1, gb⟩
  have q8X0 := Aside0.mk (R_iv q8g0 w.heap.size (w1.heap.size) (by have := HB.out.size; first | (simp; done) | (simp; omega) | omega) (by simp))
  clear q8g0
  obtain ⟨q8A0, q8c0, rfl⟩ := Kd.R_slice q8X0.out
  have q8X1 := Aside0.mk (S_iv q8g1 w.heap.size (w1.heap.size) (by have := HB.out.size; first | (simp; done) | (simp; omega) | omega) (by simp))
  clear q8g1
  obtain ⟨q8A1, q8c1, rfl⟩ := Kd.S_slice q8X1.out
  have hz2 : w1.heap.size + 0 ≤ w2.heap.size := by have := gb.size; first | omega | (simp at this; omega)
  have N_HB := Aside0.mk (below_step HB.out gb)
  have N_K2 := Aside0.mk (blk_below K2.out gb)
  clear HB K2
  have HB := N_HB
  have K2 := N_K2
  clear N_HB N_K2
  clear gb
  have y2 : w.heap.size < w2.heap.size := by omega
  have z2_0 : w2.cell? ⟨w.heap.size, 0, none⟩ = some (.slice A0_0 l0_0.length c0_0) := (blk_cell K2.out 0).trans rfl
  have z2_1 : w2.cell? ⟨w.heap.size, 1, none⟩ = some (.slice A0_1 l0_1.length c0_1) := (blk_cell K2.out 1).trans rfl
  have z2_2 : w2.cell? ⟨w.heap.size, 2, none⟩ = some (.int .i64 a0_2) := (blk_cell K2.out 2).trans rfl
  have z2_3 : w2.cell? ⟨w.heap.size, 3, none⟩ = some (.bool a0_3) := (blk_cell K2.out 3).trans rfl
  go_wp2_with fail
  clear y2 z2_0 z2_1 z2_2 z2_3
  refine (laws_toBoolS.calls k_E10 _ _ l1 r9 _ (Kd.C_below HR1.out HB.out) HC1.out H_E10.out).mono ?_
  rintro e w3 ⟨q11u0, rfl, q11g0, gb⟩
  have q11X0 := Aside0.mk (R_iv q11g0 w.heap.size (w2.heap.size) (by have := HB.out.size; first | (simp; done) | (simp; omega) | omega) (by simp))
  clear q11g0
  obtain ⟨q11A0, q11c0, rfl⟩ := Kd.R_slice q11X0.out
  have hz3 : w2.heap.size + 0 ≤ w3.heap.size := by have := gb.size; first | omega | (simp at this; omega)
  have N_HB := Aside0.mk (below_step HB.out gb)
  have N_q8X0 := Aside0.mk (Kd.R_below q8X0.out gb)
  have N_q8X1 := Aside0.mk (Kd.S_below q8X1.out gb)
  have N_K2 := Aside0.mk (blk_below K2.out gb)
  clear HB q8X0 q8X1 K2
  have HB := N_HB
  have q8X0 := N_q8X0
  have q8X1 := N_q8X1
  have K2 := N_K2
  clear N_HB N_q8X0 N_q8X1 N_K2
  clear gb
  have y2 : w.heap.size < w3.heap.size := by omega
  have z2_0 : w3.cell? ⟨w.heap.size, 0, none⟩ = some (.slice A0_0 l0_0.length c0_0) := (blk_cell K2.out 0).trans rfl
  have z2_1 : w3.cell? ⟨w.heap.size, 1, none⟩ = some (.slice A0_1 l0_1.length c0_1) := (blk_cell K2.out 1).trans rfl
  have z2_2 : w3.cell? ⟨w.heap.size, 2, none⟩ = some (.int .i64 a0_2) := (blk_cell K2.out 2).trans rfl
  have z2_3 : w3.cell? ⟨w.heap.size, 3, none⟩ = some (.bool a0_3) := (blk_cell K2.out 3).trans rfl
  go_wp2_with fail
  clear y2 z2_0 z2_1 z2_2 z2_3
  refine (spec_DiskCrash.calls k_E16 _ _ r3 _ _ r4 r5 r6 _ _ r9 r12 r13 r14 r15 _ (Kd.R_reads' q8X0.out).2.2 (Kd.R_reads' q8X0.out).2.1 (Kd.S_reads' q8X1.out).2.2 (Kd.S_reads' q8X1.out).2.1 (Kd.R_reads' q11X0.out).2.2 (Kd.R_reads' q11X0.out).2.1 H_E16.out).mono ?_
  rintro e w4 ⟨q17u0, q17u1, rfl, q17g0, q17g1, gb⟩
  have q17X0 := Aside0.mk (R_iv q17g0 w.heap.size (w3.heap.size) (by have := HB.out.size; first | (simp; done) | (simp; omega) | omega) (by simp))
  clear q17g0
  obtain ⟨q17A0, q17c0, rfl⟩ := Kd.R_slice q17X0.out
  have q17X1 := Aside0.mk (S_iv q17g1 w.heap.size (w3.heap.size) (by have := HB.out.size; first | (simp; done) | (simp; omega) | omega) (by simp))
  clear q17g1
  obtain ⟨q17A1, q17c1, rfl⟩ := Kd.S_slice q17X1.out
  have hz4 : w3.heap.size + 0 ≤ w4.heap.size := by have := gb.size; first | omega | (simp at this; omega)
  have N_HB := Aside0.mk (below_step HB.out gb)
  have N_q8X0 := Aside0.mk (Kd.R_below q8X0.out gb)
  have N_q8X1 := Aside0.mk (Kd.S_below q8X1.out gb)
  have N_q11X0 := Aside0.mk (Kd.R_below q11X0.out gb)
  have N_K2 := Aside0.mk (blk_below K2.out gb)
  clear HB q8X0 q8X1 q11X0 K2
  have HB := N_HB
  have q8X0 := N_q8X0
  have q8X1 := N_q8X1
  have q11X0 := N_q11X0
  have K2 := N_K2
  clear N_HB N_q8X0 N_q8X1 N_q11X0 N_K2
  clear gb
  have y2 : w.heap.size < w4.heap.size := by omega
  have z2_0 : w4.cell? ⟨w.heap.size, 0, none⟩ = some (.slice A0_0 l0_0.length c0_0) := (blk_cell K2.out 0).trans rfl
  have z2_1 : w4.cell? ⟨w.heap.size, 1, none⟩ = some (.slice A0_1 l0_1.length c0_1) := (blk_cell K2.out 1).trans rfl
  have z2_2 : w4.cell? ⟨w.heap.size, 2, none⟩ = some (.int .i64 a0_2) := (blk_cell K2.out 2).trans rfl
  have z2_3 : w4.cell? ⟨w.heap.size, 3, none⟩ = some (.bool a0_3) := (blk_cell K2.out 3).trans rfl
  go_wp2_with fail
  clear y2 z2_0 z2_1 z2_2 z2_3
  refine (laws_toDisk.calls k_E7 _ _ l0_0 _ _ l0_1 a0_2 a0_3 r3 r4 r5 r6 _ (Kd.C_below HR0_0.out (below_alloc HB.out _)) HC0_0.out (Kd.C_below HR0_1.out (below_alloc HB.out _)) HC0_1.out H_E7.out).mono ?_
  rintro e w5 ⟨q18u0, q18u1, rfl, q18g0, q18g1, gb⟩
  have q18X0 := Aside0.mk (R_iv q18g0 w.heap.size (w4.heap.size + 1) (by have := HB.out.size; first | (simp; done) | (simp; omega) | omega) (by simp))
  clear q18g0
  obtain ⟨q18A0, q18c0, rfl⟩ := Kd.R_slice q18X0.out
  have q18X1 := Aside0.mk (S_iv q18g1 w.heap.size (w4.heap.size + 1) (by have := HB.out.size; first | (simp; done) | (simp; omega) | omega) (by simp))
  clear q18g1
  obtain ⟨q18A1, q18c1, rfl⟩ := Kd.S_slice q18X1.out
  have hz5 : w4.heap.size + 1 ≤ w5.heap.size := by have := gb.size; first | omega | (simp at this; omega)
  have N_HB := Aside0.mk (below_step (below_alloc HB.out _) gb)
  have N_q8X0 := Aside0.mk (Kd.R_below (Kd.R_alloc q8X0.out _) gb)
  have N_q8X1 := Aside0.mk (Kd.S_below (Kd.S_alloc q8X1.out _) gb)
  have N_q11X0 := Aside0.mk (Kd.R_below (Kd.R_alloc q11X0.out _) gb)
  have N_q17X0 := Aside0.mk (Kd.R_below (Kd.R_alloc q17X0.out _) gb)
  have N_q17X1 := Aside0.mk (Kd.S_below (Kd.S_alloc q17X1.out _) gb)
  have N_K2 := Aside0.mk (blk_below (blk_alloc K2.out _) gb)
  have K6 := Aside0.mk (show w5.heap[w4.heap.size]? = some (.cells #[.slice q17A0 r12.length q17c0, .slice q17A1 r13.length q17c1, .int .i64 r14, .bool r15] 25 (0, 0)) from by have := blk_below (blk_new _ _) gb; simpa using this)
  clear HB q8X0 q8X1 q11X0 q17X0 q17X1 K2
  have HB := N_HB
  have q8X0 := N_q8X0
  have q8X1 := N_q8X1
  have q11X0 := N_q11X0
  have q17X0 := N_q17X0
  have q17X1 := N_q17X1
  have K2 := N_K2
  clear N_HB N_q8X0 N_q8X1 N_q11X0 N_q17X0 N_q17X1 N_K2
  clear gb
  go_wp2_with fail
  refine (laws_toBoolS.calls k_E10 _ _ l1 r9 _ (Kd.C_below HR1.out (below_alloc HB.out _)) HC1.out H_E10.out).mono ?_
  rintro e w6 ⟨q19u0, rfl, q19g0, gb⟩
  have q19X0 := Aside0.mk (R_iv q19g0 w.heap.size (w5.heap.size + 1) (by have := HB.out.size; first | (simp; done) | (simp; omega) | omega) (by simp))
  clear q19g0
  obtain ⟨q19A0, q19c0, rfl⟩ := Kd.R_slice q19X0.out
  have hz6 : w5.heap.size + 1 ≤ w6.heap.size := by have := gb.size; first | omega | (simp at this; omega)
  have N_HB := Aside0.mk (below_step (below_alloc HB.out _) gb)
  have N_q8X0 := Aside0.mk (Kd.R_below (Kd.R_alloc q8X0.out _) gb)
  have N_q8X1 := Aside0.mk (Kd.S_below (Kd.S_alloc q8X1.out _) gb)
  have N_q11X0 := Aside0.mk (Kd.R_below (Kd.R_alloc q11X0.out _) gb)
  have N_q17X0 := Aside0.mk (Kd.R_below (Kd.R_alloc q17X0.out _) gb)
  have N_q17X1 := Aside0.mk (Kd.S_below (Kd.S_alloc q17X1.out _) gb)
  have N_q18X0 := Aside0.mk (Kd.R_below (Kd.R_alloc q18X0.out _) gb)
  have N_q18X1 := Aside0.mk (Kd.S_below (Kd.S_alloc q18X1.out _) gb)
  have N_K2 := Aside0.mk (blk_below (blk_alloc K2.out _) gb)
  have N_K6 := Aside0.mk (blk_below (blk_alloc K6.out _) gb)
  have K7 := Aside0.mk (show w6.heap[w5.heap.size]? = some (.cells #[.slice q18A0 r3.length q18c0, .slice q18A1 r4.length q18c1, .int .i64 r5, .bool r6] 25 (0, 0)) from by have := blk_below (blk_new _ _) gb; simpa using this)
  clear HB q8X0 q8X1 q11X0 q17X0 q17X1 q18X0 q18X1 K2 K6
  have HB := N_HB
  have q8X0 := N_q8X0
  have q8X1 := N_q8X1
  have q11X0 := N_q11X0
  have q17X0 := N_q17X0
  have q17X1 := N_q17X1
  have q18X0 := N_q18X0
  have q18X1 := N_q18X1
  have K2 := N_K2
  have K6 := N_K6
  clear N_HB N_q8X0 N_q8X1 N_q11X0 N_q17X0 N_q17X1 N_q18X0 N_q18X1 N_K2 N_K6
  clear gb
  have y7 : w5.heap.size < w6.heap.size := by omega
  have z7_0 : w6.cell? ⟨w5.heap.size, 0, none⟩ = some (.slice q18A0 r3.length q18c0) := (blk_cell K7.out 0).trans rfl
  have z7_1 : w6.cell? ⟨w5.heap.size, 1, none⟩ = some (.slice q18A1 r4.length q18c1) := (blk_cell K7.out 1).trans rfl
  have z7_2 : w6.cell? ⟨w5.heap.size, 2, none⟩ = some (.int .i64 r5) := (blk_cell K7.out 2).trans rfl
  have z7_3 : w6.cell? ⟨w5.heap.size, 3, none⟩ = some (.bool r6) := (blk_cell K7.out 3).trans rfl
  go_wp2_with fail
  clear y7 z7_0 z7_1 z7_2 z7_3
  refine (impl_DiskCrash.calls _ _ r3 _ _ r4 r5 r6 _ _ r9 r12 r13 r14 r15 _ (Kd.R_reads' q18X0.out).2.2 (Kd.R_reads' q18X0.out).2.1 (Kd.S_reads' q18X1.out).2.2 (Kd.S_reads' q18X1.out).2.1 (Kd.R_reads' q19X0.out).2.2 (Kd.R_reads' q19X0.out).2.1 H_E20.out).mono ?_
  rintro e w7 ⟨q21u0, q21u1, rfl, q21g0, q21g1, gb⟩
  have q21X0 := Aside0.mk (R_iv q21g0 w.heap.size (w6.heap.size) (by have := HB.out.size; first | (simp; done) | (simp; omega) | omega) (by simp))
  clear q21g0
  obtain ⟨q21A0, q21c0, rfl⟩ := Kd.R_slice q21X0.out
  have q21X1 := Aside0.mk (S_iv q21g1 w.heap.size (w6.heap.size) (by have := HB.out.size; first | (simp; done) | (simp; omega) | omega) (by simp))
  clear q21g1
  obtain ⟨q21A1, q21c1, rfl⟩ := Kd.S_slice q21X1.out
  have hz7 : w6.heap.size + 0 ≤ w7.heap.size := by have := gb.size; first | omega | (simp at this; omega)
  have N_HB := Aside0.mk (below_step HB.out gb)
  have N_q8X0 := Aside0.mk (Kd.R_below q8X0.out gb)
  have N_q8X1 := Aside0.mk (Kd.S_below q8X1.out gb)
  have N_q11X0 := Aside0.mk (Kd.R_below q11X0.out gb)
  have N_q17X0 := Aside0.mk (Kd.R_below q17X0.out gb)
  have N_q17X1 := Aside0.mk (Kd.S_below q17X1.out gb)
  have N_q18X0 := Aside0.mk (Kd.R_below q18X0.out gb)
  have N_q18X1 := Aside0.mk (Kd.S_below q18X1.out gb)
  have N_q19X0 := Aside0.mk (Kd.R_below q19X0.out gb)
  have N_K2 := Aside0.mk (blk_below K2.out gb)
  have N_K6 := Aside0.mk (blk_below K6.out gb)
  have N_K7 := Aside0.mk (blk_below K7.out gb)
  clear HB q8X0 q8X1 q11X0 q17X0 q17X1 q18X0 q18X1 q19X0 K2 K6 K7
  have HB := N_HB
  have q8X0 := N_q8X0
  have q8X1 := N_q8X1
  have q11X0 := N_q11X0
  have q17X0 := N_q17X0
  have q17X1 := N_q17X1
  have q18X0 := N_q18X0
  have q18X1 := N_q18X1
  have q19X0 := N_q19X0
  have K2 := N_K2
  have K6 := N_K6
  have K7 := N_K7
  clear N_HB N_q8X0 N_q8X1 N_q11X0 N_q17X0 N_q17X1 N_q18X0 N_q18X1 N_q19X0 N_K2 N_K6 N_K7
  clear gb
  have y6 : w4.heap.size < w7.heap.size := by omega
  have z6_0 : w7.cell? ⟨w4.heap.size, 0, none⟩ = some (.slice q17A0 r12.length q17c0) := (blk_cell K6.out 0).trans rfl
  have z6_1 : w7.cell? ⟨w4.heap.size, 1, none⟩ = some (.slice q17A1 r13.length q17c1) := (blk_cell K6.out 1).trans rfl
  have z6_2 : w7.cell? ⟨w4.heap.size, 2, none⟩ = some (.int .i64 r14) := (blk_cell K6.out 2).trans rfl
  have z6_3 : w7.cell? ⟨w4.heap.size, 3, none⟩ = some (.bool r15) := (blk_cell K6.out 3).trans rfl
  go_wp2_with fail
  clear y6 z6_0 z6_1 z6_2 z6_3
  refine (laws_eqDisk.calls k_E22 _ _ r12 _ _ r13 r14 r15 _ _ r12 _ _ r13 r14 r15 true _ (Kd.C_alloc (Kd.R_reads' q21X0.out).2.2 _) (Kd.R_reads' q21X0.out).2.1 (Kd.C_alloc (Kd.S_reads' q21X1.out).2.2 _) (Kd.S_reads' q21X1.out).2.1 (Kd.C_alloc (Kd.R_reads' q17X0.out).2.2 _) (Kd.R_reads' q17X0.out).2.1 (Kd.C_alloc (Kd.S_reads' q17X1.out).2.2 _) (Kd.S_reads' q17X1.out).2.1 H_E22.out).mono ?_
  rintro e w8 ⟨rfl, gb⟩
  have hz8 : w7.heap.size + 1 ≤ w8.heap.size := by have := gb.size; first | omega | (simp at this; omega)
  have N_HB := Aside0.mk (below_step (below_alloc HB.out _) gb)
  have N_q8X0 := Aside0.mk (Kd.R_below (Kd.R_alloc q8X0.out _) gb)
  have N_q8X1 := Aside0.mk (Kd.S_below (Kd.S_alloc q8X1.out _) gb)
  have N_q11X0 := Aside0.mk (Kd.R_below (Kd.R_alloc q11X0.out _) gb)
  have N_q17X0 := Aside0.mk (Kd.R_below (Kd.R_alloc q17X0.out _) gb)
  have N_q17X1 := Aside0.mk (Kd.S_below (Kd.S_alloc q17X1.out _) gb)
  have N_q18X0 := Aside0.mk (Kd.R_below (Kd.R_alloc q18X0.out _) gb)
  have N_q18X1 := Aside0.mk (Kd.S_below (Kd.S_alloc q18X1.out _) gb)
  have N_q19X0 := Aside0.mk (Kd.R_below (Kd.R_alloc q19X0.out _) gb)
  have N_q21X0 := Aside0.mk (Kd.R_below (Kd.R_alloc q21X0.out _) gb)
  have N_q21X1 := Aside0.mk (Kd.S_below (Kd.S_alloc q21X1.out _) gb)
  have N_K2 := Aside0.mk (blk_below (blk_alloc K2.out _) gb)
  have N_K6 := Aside0.mk (blk_below (blk_alloc K6.out _) gb)
  have N_K7 := Aside0.mk (blk_below (blk_alloc K7.out _) gb)
  have K9 := Aside0.mk (show w8.heap[w7.heap.size]? = some (.cells #[.slice q21A0 r12.length q21c0, .slice q21A1 r13.length q21c1, .int .i64 r14, .bool r15] 25 (0, 0)) from by have := blk_below (blk_new _ _) gb; simpa using this)
  clear HB q8X0 q8X1 q11X0 q17X0 q17X1 q18X0 q18X1 q19X0 q21X0 q21X1 K2 K6 K7
  have HB := N_HB
  have q8X0 := N_q8X0
  have q8X1 := N_q8X1
  have q11X0 := N_q11X0
  have q17X0 := N_q17X0
  have q17X1 := N_q17X1
  have q18X0 := N_q18X0
  have q18X1 := N_q18X1
  have q19X0 := N_q19X0
  have q21X0 := N_q21X0
  have q21X1 := N_q21X1
  have K2 := N_K2
  have K6 := N_K6
  have K7 := N_K7
  clear N_HB N_q8X0 N_q8X1 N_q11X0 N_q17X0 N_q17X1 N_q18X0 N_q18X1 N_q19X0 N_q21X0 N_q21X1 N_K2 N_K6 N_K7
  clear gb
  have y7 : w5.heap.size < w8.heap.size := by omega
  have z7_0 : w8.cell? ⟨w5.heap.size, 0, none⟩ = some (.slice q18A0 r3.length q18c0) := (blk_cell K7.out 0).trans rfl
  have z7_1 : w8.cell? ⟨w5.heap.size, 1, none⟩ = some (.slice q18A1 r4.length q18c1) := (blk_cell K7.out 1).trans rfl
  have z7_2 : w8.cell? ⟨w5.heap.size, 2, none⟩ = some (.int .i64 r5) := (blk_cell K7.out 2).trans rfl
  have z7_3 : w8.cell? ⟨w5.heap.size, 3, none⟩ = some (.bool r6) := (blk_cell K7.out 3).trans rfl
  have y2 : w.heap.size < w8.heap.size := by omega
  have z2_0 : w8.cell? ⟨w.heap.size, 0, none⟩ = some (.slice A0_0 l0_0.length c0_0) := (blk_cell K2.out 0).trans rfl
  have z2_1 : w8.cell? ⟨w.heap.size, 1, none⟩ = some (.slice A0_1 l0_1.length c0_1) := (blk_cell K2.out 1).trans rfl
  have z2_2 : w8.cell? ⟨w.heap.size, 2, none⟩ = some (.int .i64 a0_2) := (blk_cell K2.out 2).trans rfl
  have z2_3 : w8.cell? ⟨w.heap.size, 3, none⟩ = some (.bool a0_3) := (blk_cell K2.out 3).trans rfl
  go_wp2_with fail
  go_region_held3 (fun w' => w'.cell? ⟨w5.heap.size, 0, none⟩ = some (.slice q18A0 r3.length q18c0) ∧ w'.cell? ⟨w5.heap.size, 1, none⟩ = some (.slice q18A1 r4.length q18c1) ∧ w'.cell? ⟨w5.heap.size, 2, none⟩ = some (.int .i64 r5) ∧ w'.cell? ⟨w5.heap.size, 3, none⟩ = some (.bool r6) ∧ w'.cell? ⟨w.heap.size, 0, none⟩ = some (.slice A0_0 l0_0.length c0_0) ∧ w'.cell? ⟨w.heap.size, 1, none⟩ = some (.slice A0_1 l0_1.length c0_1) ∧ w'.cell? ⟨w.heap.size, 2, none⟩ = some (.int .i64 a0_2) ∧ w'.cell? ⟨w.heap.size, 3, none⟩ = some (.bool a0_3)) (go_keep) (first | (go_at_call 17; (refine (laws_toDisk.calls k_E7 _ _ l0_0 _ _ l0_1 a0_2 a0_3 r3 r4 r5 r6 _ (Kd.C_below HR0_0.out (below_drew HB.out)) HC0_0.out (Kd.C_below HR0_1.out (below_drew HB.out)) HC0_1.out H_E7.out).mono ?_); (rintro e w9 ⟨q23u0, q23u1, rfl, q23g0, q23g1, gb⟩); (have q23X0 := Aside0.mk (R_iv q23g0 w.heap.size (w8.heap.size) (by have := HB.out.size; first | (simp; done) | (simp; omega) | omega) (by simp))); (clear q23g0); (obtain ⟨q23A0, q23c0, rfl⟩ := Kd.R_slice q23X0.out); (have q23X1 := Aside0.mk (S_iv q23g1 w.heap.size (w8.heap.size) (by have := HB.out.size; first | (simp; done) | (simp; omega) | omega) (by simp))); (clear q23g1); (obtain ⟨q23A1, q23c1, rfl⟩ := Kd.S_slice q23X1.out); (have hz9 : w8.heap.size + 0 ≤ w9.heap.size := by have := gb.size; first | omega | (simp at this; omega)); (have N_HB := Aside0.mk (below_step (below_drew HB.out) gb)); (have N_q8X0 := Aside0.mk (Kd.R_below (Kd.R_drew q8X0.out) gb)); (have N_q8X1 := Aside0.mk (Kd.S_below (Kd.S_drew q8X1.out) gb)); (have N_q11X0 := Aside0.mk (Kd.R_below (Kd.R_drew q11X0.out) gb)); (have N_q17X0 := Aside0.mk (Kd.R_below (Kd.R_drew q17X0.out) gb)); (have N_q17X1 := Aside0.mk (Kd.S_below (Kd.S_drew q17X1.out) gb)); (have N_q18X0 := Aside0.mk (Kd.R_below (Kd.R_drew q18X0.out) gb)); (have N_q18X1 := Aside0.mk (Kd.S_below (Kd.S_drew q18X1.out) gb)); (have N_q19X0 := Aside0.mk (Kd.R_below (Kd.R_drew q19X0.out) gb)); (have N_q21X0 := Aside0.mk (Kd.R_below (Kd.R_drew q21X0.out) gb)); (have N_q21X1 := Aside0.mk (Kd.S_below (Kd.S_drew q21X1.out) gb)); (have N_K2 := Aside0.mk (blk_below (blk_drew K2.out) gb)); (have N_K6 := Aside0.mk (blk_below (blk_drew K6.out) gb)); (have N_K7 := Aside0.mk (blk_below (blk_drew K7.out) gb)); (have N_K9 := Aside0.mk (blk_below (blk_drew K9.out) gb)); (clear HB q8X0 q8X1 q11X0 q17X0 q17X1 q18X0 q18X1 q19X0 q21X0 q21X1 K2 K6 K7 K9); (have HB := N_HB); (have q8X0 := N_q8X0); (have q8X1 := N_q8X1); (have q11X0 := N_q11X0); (have q17X0 := N_q17X0); (have q17X1 := N_q17X1); (have q18X0 := N_q18X0); (have q18X1 := N_q18X1); (have q19X0 := N_q19X0); (have q21X0 := N_q21X0); (have q21X1 := N_q21X1); (have K2 := N_K2); (have K6 := N_K6); (have K7 := N_K7); (have K9 := N_K9); (clear N_HB N_q8X0 N_q8X1 N_q11X0 N_q17X0 N_q17X1 N_q18X0 N_q18X1 N_q19X0 N_q21X0 N_q21X1 N_K2 N_K6 N_K7 N_K9); (clear gb); (clear y7 z7_0 z7_1 z7_2 z7_3 y2 z2_0 z2_1 z2_2 z2_3); (have y7 : w5.heap.size < w9.heap.size := by omega); (have z7_0 : w9.cell? ⟨w5.heap.size, 0, none⟩ = some (.slice q18A0 r3.length q18c0) := (blk_cell K7.out 0).trans rfl); (have z7_1 : w9.cell? ⟨w5.heap.size, 1, none⟩ = some (.slice q18A1 r4.length q18c1) := (blk_cell K7.out 1).trans rfl); (have z7_2 : w9.cell? ⟨w5.heap.size, 2, none⟩ = some (.int .i64 r5) := (blk_cell K7.out 2).trans rfl); (have z7_3 : w9.cell? ⟨w5.heap.size, 3, none⟩ = some (.bool r6) := (blk_cell K7.out 3).trans rfl); (have y2 : w.heap.size < w9.heap.size := by omega); (have z2_0 : w9.cell? ⟨w.heap.size, 0, none⟩ = some (.slice A0_0 l0_0.length c0_0) := (blk_cell K2.out 0).trans rfl); (have z2_1 : w9.cell? ⟨w.heap.size, 1, none⟩ = some (.slice A0_1 l0_1.length c0_1) := (blk_cell K2.out 1).trans rfl); (have z2_2 : w9.cell? ⟨w.heap.size, 2, none⟩ = some (.int .i64 a0_2) := (blk_cell K2.out 2).trans rfl); (have z2_3 : w9.cell? ⟨w.heap.size, 3, none⟩ = some (.bool a0_3) := (blk_cell K2.out 3).trans rfl)) | (go_at_call 12; (refine (laws_eqDisk.calls k_E24 _ _ r3 _ _ r4 r5 r6 _ _ r3 _ _ r4 r5 r6 true _ (Kd.R_reads' q18X0.out).2.2 (Kd.R_reads' q18X0.out).2.1 (Kd.S_reads' q18X1.out).2.2 (Kd.S_reads' q18X1.out).2.1 (Kd.R_reads' q23X0.out).2.2 (Kd.R_reads' q23X0.out).2.1 (Kd.S_reads' q23X1.out).2.2 (Kd.S_reads' q23X1.out).2.1 H_E24.out).mono ?_); (rintro e w10 ⟨rfl, gb⟩); (have hz10 : w9.heap.size + 0 ≤ w10.heap.size := by have := gb.size; first | omega | (simp at this; omega)); (have N_HB := Aside0.mk (below_step HB.out gb)); (have N_q8X0 := Aside0.mk (Kd.R_below q8X0.out gb)); (have N_q8X1 := Aside0.mk (Kd.S_below q8X1.out gb)); (have N_q11X0 := Aside0.mk (Kd.R_below q11X0.out gb)); (have N_q17X0 := Aside0.mk (Kd.R_below q17X0.out gb)); (have N_q17X1 := Aside0.mk (Kd.S_below q17X1.out gb)); (have N_q18X0 := Aside0.mk (Kd.R_below q18X0.out gb)); (have N_q18X1 := Aside0.mk (Kd.S_below q18X1.out gb)); (have N_q19X0 := Aside0.mk (Kd.R_below q19X0.out gb)); (have N_q21X0 := Aside0.mk (Kd.R_below q21X0.out gb)); (have N_q21X1 := Aside0.mk (Kd.S_below q21X1.out gb)); (have N_q23X0 := Aside0.mk (Kd.R_below q23X0.out gb)); (have N_q23X1 := Aside0.mk (Kd.S_below q23X1.out gb)); (have N_K2 := Aside0.mk (blk_below K2.out gb)); (have N_K6 := Aside0.mk (blk_below K6.out gb)); (have N_K7 := Aside0.mk (blk_below K7.out gb)); (have N_K9 := Aside0.mk (blk_below K9.out gb)); (clear HB q8X0 q8X1 q11X0 q17X0 q17X1 q18X0 q18X1 q19X0 q21X0 q21X1 q23X0 q23X1 K2 K6 K7 K9); (have HB := N_HB); (have q8X0 := N_q8X0); (have q8X1 := N_q8X1); (have q11X0 := N_q11X0); (have q17X0 := N_q17X0); (have q17X1 := N_q17X1); (have q18X0 := N_q18X0); (have q18X1 := N_q18X1); (have q19X0 := N_q19X0); (have q21X0 := N_q21X0); (have q21X1 := N_q21X1); (have q23X0 := N_q23X0); (have q23X1 := N_q23X1); (have K2 := N_K2); (have K6 := N_K6); (have K7 := N_K7); (have K9 := N_K9); (clear N_HB N_q8X0 N_q8X1 N_q11X0 N_q17X0 N_q17X1 N_q18X0 N_q18X1 N_q19X0 N_q21X0 N_q21X1 N_q23X0 N_q23X1 N_K2 N_K6 N_K7 N_K9); (clear gb); (clear y7 z7_0 z7_1 z7_2 z7_3 y2 z2_0 z2_1 z2_2 z2_3); (have y7 : w5.heap.size < w10.heap.size := by omega); (have z7_0 : w10.cell? ⟨w5.heap.size, 0, none⟩ = some (.slice q18A0 r3.length q18c0) := (blk_cell K7.out 0).trans rfl); (have z7_1 : w10.cell? ⟨w5.heap.size, 1, none⟩ = some (.slice q18A1 r4.length q18c1) := (blk_cell K7.out 1).trans rfl); (have z7_2 : w10.cell? ⟨w5.heap.size, 2, none⟩ = some (.int .i64 r5) := (blk_cell K7.out 2).trans rfl); (have z7_3 : w10.cell? ⟨w5.heap.size, 3, none⟩ = some (.bool r6) := (blk_cell K7.out 3).trans rfl); (have y2 : w.heap.size < w10.heap.size := by omega); (have z2_0 : w10.cell? ⟨w.heap.size, 0, none⟩ = some (.slice A0_0 l0_0.length c0_0) := (blk_cell K2.out 0).trans rfl); (have z2_1 : w10.cell? ⟨w.heap.size, 1, none⟩ = some (.slice A0_1 l0_1.length c0_1) := (blk_cell K2.out 1).trans rfl); (have z2_2 : w10.cell? ⟨w.heap.size, 2, none⟩ = some (.int .i64 a0_2) := (blk_cell K2.out 2).trans rfl); (have z2_3 : w10.cell? ⟨w.heap.size, 3, none⟩ = some (.bool a0_3) := (blk_cell K2.out 3).trans rfl)))
  clear y7 z7_0 z7_1 z7_2 z7_3 y2 z2_0 z2_1 z2_2 z2_3
  go_wp2_with fail
  refine (laws_toBoolS.calls k_E10 _ _ l1 r9 _ (Kd.C_below HR1.out HB.out) HC1.out H_E10.out).mono ?_
  rintro e w11 ⟨q25u0, rfl, q25g0, gb⟩
  have q25X0 := Aside0.mk (R_iv q25g0 w.heap.size (w10.heap.size) (by have := HB.out.size; first | (simp; done) | (simp; omega) | omega) (by simp))
  clear q25g0
  obtain ⟨q25A0, q25c0, rfl⟩ := Kd.R_slice q25X0.out
  have hz11 : w10.heap.size + 0 ≤ w11.heap.size := by have := gb.size; first | omega | (simp at this; omega)
  have N_HB := Aside0.mk (below_step HB.out gb)
  have N_q8X0 := Aside0.mk (Kd.R_below q8X0.out gb)
  have N_q8X1 := Aside0.mk (Kd.S_below q8X1.out gb)
  have N_q11X0 := Aside0.mk (Kd.R_below q11X0.out gb)
  have N_q17X0 := Aside0.mk (Kd.R_below q17X0.out gb)
  have N_q17X1 := Aside0.mk (Kd.S_below q17X1.out gb)
  have N_q18X0 := Aside0.mk (Kd.R_below q18X0.out gb)
  have N_q18X1 := Aside0.mk (Kd.S_below q18X1.out gb)
  have N_q19X0 := Aside0.mk (Kd.R_below q19X0.out gb)
  have N_q21X0 := Aside0.mk (Kd.R_below q21X0.out gb)
  have N_q21X1 := Aside0.mk (Kd.S_below q21X1.out gb)
  have N_q23X0 := Aside0.mk (Kd.R_below q23X0.out gb)
  have N_q23X1 := Aside0.mk (Kd.S_below q23X1.out gb)
  have N_K2 := Aside0.mk (blk_below K2.out gb)
  have N_K6 := Aside0.mk (blk_below K6.out gb)
  have N_K7 := Aside0.mk (blk_below K7.out gb)
  have N_K9 := Aside0.mk (blk_below K9.out gb)
  clear HB q8X0 q8X1 q11X0 q17X0 q17X1 q18X0 q18X1 q19X0 q21X0 q21X1 q23X0 q23X1 K2 K6 K7 K9
  have HB := N_HB
  have q8X0 := N_q8X0
  have q8X1 := N_q8X1
  have q11X0 := N_q11X0
  have q17X0 := N_q17X0
  have q17X1 := N_q17X1
  have q18X0 := N_q18X0
  have q18X1 := N_q18X1
  have q19X0 := N_q19X0
  have q21X0 := N_q21X0
  have q21X1 := N_q21X1
  have q23X0 := N_q23X0
  have q23X1 := N_q23X1
  have K2 := N_K2
  have K6 := N_K6
  have K7 := N_K7
  have K9 := N_K9
  clear N_HB N_q8X0 N_q8X1 N_q11X0 N_q17X0 N_q17X1 N_q18X0 N_q18X1 N_q19X0 N_q21X0 N_q21X1 N_q23X0 N_q23X1 N_K2 N_K6 N_K7 N_K9
  clear gb
  go_wp2_with fail
  refine (laws_eqBoolS.calls k_E26 _ _ r9 _ _ r9 true _ (Kd.R_reads' q19X0.out).2.2 (Kd.R_reads' q19X0.out).2.1 (Kd.R_reads' q25X0.out).2.2 (Kd.R_reads' q25X0.out).2.1 H_E26.out).mono ?_
  rintro e w12 ⟨rfl, gb⟩
  replace gb := drawn_below gb
  have hz12 : w11.heap.size + 0 ≤ w12.heap.size := by have := gb.size; first | omega | (simp at this; omega)
  have N_HB := Aside0.mk (below_step HB.out gb)
  have N_q8X0 := Aside0.mk (Kd.R_below q8X0.out gb)
  have N_q8X1 := Aside0.mk (Kd.S_below q8X1.out gb)
  have N_q11X0 := Aside0.mk (Kd.R_below q11X0.out gb)
  have N_q17X0 := Aside0.mk (Kd.R_below q17X0.out gb)
  have N_q17X1 := Aside0.mk (Kd.S_below q17X1.out gb)
  have N_q18X0 := Aside0.mk (Kd.R_below q18X0.out gb)
  have N_q18X1 := Aside0.mk (Kd.S_below q18X1.out gb)
  have N_q19X0 := Aside0.mk (Kd.R_below q19X0.out gb)
  have N_q21X0 := Aside0.mk (Kd.R_below q21X0.out gb)
  have N_q21X1 := Aside0.mk (Kd.S_below q21X1.out gb)
  have N_q23X0 := Aside0.mk (Kd.R_below q23X0.out gb)
  have N_q23X1 := Aside0.mk (Kd.S_below q23X1.out gb)
  have N_q25X0 := Aside0.mk (Kd.R_below q25X0.out gb)
  have N_K2 := Aside0.mk (blk_below K2.out gb)
  have N_K6 := Aside0.mk (blk_below K6.out gb)
  have N_K7 := Aside0.mk (blk_below K7.out gb)
  have N_K9 := Aside0.mk (blk_below K9.out gb)
  clear HB q8X0 q8X1 q11X0 q17X0 q17X1 q18X0 q18X1 q19X0 q21X0 q21X1 q23X0 q23X1 q25X0 K2 K6 K7 K9
  have HB := N_HB
  have q8X0 := N_q8X0
  have q8X1 := N_q8X1
  have q11X0 := N_q11X0
  have q17X0 := N_q17X0
  have q17X1 := N_q17X1
  have q18X0 := N_q18X0
  have q18X1 := N_q18X1
  have q19X0 := N_q19X0
  have q21X0 := N_q21X0
  have q21X1 := N_q21X1
  have q23X0 := N_q23X0
  have q23X1 := N_q23X1
  have q25X0 := N_q25X0
  have K2 := N_K2
  have K6 := N_K6
  have K7 := N_K7
  have K9 := N_K9
  clear N_HB N_q8X0 N_q8X1 N_q11X0 N_q17X0 N_q17X1 N_q18X0 N_q18X1 N_q19X0 N_q21X0 N_q21X1 N_q23X0 N_q23X1 N_q25X0 N_K2 N_K6 N_K7 N_K9
  clear gb
  have y7 : w5.heap.size < w12.heap.size := by omega
  have z7_0 : w12.cell? ⟨w5.heap.size, 0, none⟩ = some (.slice q18A0 r3.length q18c0) := (blk_cell K7.out 0).trans rfl
  have z7_1 : w12.cell? ⟨w5.heap.size, 1, none⟩ = some (.slice q18A1 r4.length q18c1) := (blk_cell K7.out 1).trans rfl
  have z7_2 : w12.cell? ⟨w5.heap.size, 2, none⟩ = some (.int .i64 r5) := (blk_cell K7.out 2).trans rfl
  have z7_3 : w12.cell? ⟨w5.heap.size, 3, none⟩ = some (.bool r6) := (blk_cell K7.out 3).trans rfl
  go_wp2_with fail
  clear y7 z7_0 z7_1 z7_2 z7_3
  refine (laws_markDisk.own k_E29 k_E32 (w4.heap.size + 1) (w5.heap.size) _ _ r5 r6 r3 r4 1 m27 m30 l28 l31 w _ (by have := HB.out.size; omega) HB.out q18X0.out q18X1.out H_E29.out H_E32.out).mono ?_
  rintro e w13 ⟨rfl, g_0, g_1, gB, hk⟩
  have hz13 : w12.heap.size + 0 ≤ w13.heap.size := by have := hk.1; first | omega | (simp at this; omega)
  have N_q8X0 := Aside0.mk (Kd.R_kept q8X0.out hk (fun k hk1 hk2 => by have := hk1.1; omega))
  have N_q8X1 := Aside0.mk (Kd.S_kept q8X1.out hk (fun k hk1 hk2 => by have := hk1.1; omega))
  have N_q11X0 := Aside0.mk (Kd.R_kept q11X0.out hk (fun k hk1 hk2 => by have := hk1.1; omega))
  have N_q17X0 := Aside0.mk (Kd.R_kept q17X0.out hk (fun k hk1 hk2 => by have := hk1.1; omega))
  have N_q17X1 := Aside0.mk (Kd.S_kept q17X1.out hk (fun k hk1 hk2 => by have := hk1.1; omega))
  have N_q19X0 := Aside0.mk (Kd.R_kept q19X0.out hk (fun k hk1 hk2 => by have := hk1.1; omega))
  have N_q21X0 := Aside0.mk (Kd.R_kept q21X0.out hk (fun k hk1 hk2 => by have := hk1.1; omega))
  have N_q21X1 := Aside0.mk (Kd.S_kept q21X1.out hk (fun k hk1 hk2 => by have := hk1.1; omega))
  have N_q23X0 := Aside0.mk (Kd.R_kept q23X0.out hk (fun k hk1 hk2 => by have := hk1.1; omega))
  have N_q23X1 := Aside0.mk (Kd.S_kept q23X1.out hk (fun k hk1 hk2 => by have := hk1.1; omega))
  have N_q25X0 := Aside0.mk (Kd.R_kept q25X0.out hk (fun k hk1 hk2 => by have := hk1.1; omega))
  have N_K2 := Aside0.mk (blk_kept K2.out hk (fun hk2 => by omega))
  have N_K6 := Aside0.mk (blk_kept K6.out hk (fun hk2 => by omega))
  have N_K7 := Aside0.mk (blk_kept K7.out hk (fun hk2 => by omega))
  have N_K9 := Aside0.mk (blk_kept K9.out hk (fun hk2 => by omega))
  clear q8X0 q8X1 q11X0 q17X0 q17X1 q19X0 q21X0 q21X1 q23X0 q23X1 q25X0 K2 K6 K7 K9
  have q8X0 := N_q8X0
  have q8X1 := N_q8X1
  have q11X0 := N_q11X0
  have q17X0 := N_q17X0
  have q17X1 := N_q17X1
  have q19X0 := N_q19X0
  have q21X0 := N_q21X0
  have q21X1 := N_q21X1
  have q23X0 := N_q23X0
  have q23X1 := N_q23X1
  have q25X0 := N_q25X0
  have K2 := N_K2
  have K6 := N_K6
  have K7 := N_K7
  have K9 := N_K9
  clear N_q8X0 N_q8X1 N_q11X0 N_q17X0 N_q17X1 N_q19X0 N_q21X0 N_q21X1 N_q23X0 N_q23X1 N_q25X0 N_K2 N_K6 N_K7 N_K9
  clear HB hk
  have HB := Aside0.mk gB
  clear gB
  clear q18X0
  have q18X0 := Aside0.mk g_0
  clear g_0
  clear q18X1
  have q18X1 := Aside0.mk g_1
  clear g_1
  have ev_ : (.slice q18A0 r3.length q18c0 : Value) = .slice q18A0 l28.length q18c0 := by rw [(Kd.R_reads' q18X0.out).1]
  try rw [ev_] at q18X0
  try rw [ev_] at q18X1
  try rw [ev_] at K7
  try rw [ev_]
  clear ev_
  have ev_ : (.slice q18A1 r4.length q18c1 : Value) = .slice q18A1 l31.length q18c1 := by rw [(Kd.S_reads' q18X1.out).1]
  try rw [ev_] at q18X0
  try rw [ev_] at q18X1
  try rw [ev_] at K7
  try rw [ev_]
  clear ev_
  clear q18X0 q18X1 K7
  go_wp2_with fail
  refine (laws_markBoolS.own k_E35 (w5.heap.size + 1) (w6.heap.size) _ r9 m30 m33 l34 w _ (by have := HB.out.size; omega) HB.out q19X0.out H_E35.out).mono ?_
  rintro e w14 ⟨rfl, g_0, gB, hk⟩
  have hz14 : w13.heap.size + 0 ≤ w14.heap.size := by have := hk.1; first | omega | (simp at this; omega)
  have N_q8X0 := Aside0.mk (Kd.R_kept q8X0.out hk (fun k hk1 hk2 => by have := hk1.1; omega))
  have N_q8X1 := Aside0.mk (Kd.S_kept q8X1.out hk (fun k hk1 hk2 => by have := hk1.1; omega))
  have N_q11X0 := Aside0.mk (Kd.R_kept q11X0.out hk (fun k hk1 hk2 => by have := hk1.1; omega))
  have N_q17X0 := Aside0.mk (Kd.R_kept q17X0.out hk (fun k hk1 hk2 => by have := hk1.1; omega))
  have N_q17X1 := Aside0.mk (Kd.S_kept q17X1.out hk (fun k hk1 hk2 => by have := hk1.1; omega))
  have N_q21X0 := Aside0.mk (Kd.R_kept q21X0.out hk (fun k hk1 hk2 => by have := hk1.1; omega))
  have N_q21X1 := Aside0.mk (Kd.S_kept q21X1.out hk (fun k hk1 hk2 => by have := hk1.1; omega))
  have N_q23X0 := Aside0.mk (Kd.R_kept q23X0.out hk (fun k hk1 hk2 => by have := hk1.1; omega))
  have N_q23X1 := Aside0.mk (Kd.S_kept q23X1.out hk (fun k hk1 hk2 => by have := hk1.1; omega))
  have N_q25X0 := Aside0.mk (Kd.R_kept q25X0.out hk (fun k hk1 hk2 => by have := hk1.1; omega))
  have N_K2 := Aside0.mk (blk_kept K2.out hk (fun hk2 => by omega))
  have N_K6 := Aside0.mk (blk_kept K6.out hk (fun hk2 => by omega))
  have N_K9 := Aside0.mk (blk_kept K9.out hk (fun hk2 => by omega))
  clear q8X0 q8X1 q11X0 q17X0 q17X1 q21X0 q21X1 q23X0 q23X1 q25X0 K2 K6 K9
  have q8X0 := N_q8X0
  have q8X1 := N_q8X1
  have q11X0 := N_q11X0
  have q17X0 := N_q17X0
  have q17X1 := N_q17X1
  have q21X0 := N_q21X0
  have q21X1 := N_q21X1
  have q23X0 := N_q23X0
  have q23X1 := N_q23X1
  have q25X0 := N_q25X0
  have K2 := N_K2
  have K6 := N_K6
  have K9 := N_K9
  clear N_q8X0 N_q8X1 N_q11X0 N_q17X0 N_q17X1 N_q21X0 N_q21X1 N_q23X0 N_q23X1 N_q25X0 N_K2 N_K6 N_K9
  clear HB hk
  have HB := Aside0.mk gB
  clear gB
  clear q19X0
  have q19X0 := Aside0.mk g_0
  clear g_0
  have ev_ : (.slice q19A0 r9.length q19c0 : Value) = .slice q19A0 l34.length q19c0 := by rw [(Kd.R_reads' q19X0.out).1]
  try rw [ev_] at q19X0
  try rw [ev_]
  clear ev_
  clear q19X0
  have y9 : w7.heap.size < w14.heap.size := by omega
  have z9_0 : w14.cell? ⟨w7.heap.size, 0, none⟩ = some (.slice q21A0 r12.length q21c0) := (blk_cell K9.out 0).trans rfl
  have z9_1 : w14.cell? ⟨w7.heap.size, 1, none⟩ = some (.slice q21A1 r13.length q21c1) := (blk_cell K9.out 1).trans rfl
  have z9_2 : w14.cell? ⟨w7.heap.size, 2, none⟩ = some (.int .i64 r14) := (blk_cell K9.out 2).trans rfl
  have z9_3 : w14.cell? ⟨w7.heap.size, 3, none⟩ = some (.bool r15) := (blk_cell K9.out 3).trans rfl
  have y6 : w4.heap.size < w14.heap.size := by omega
  have z6_0 : w14.cell? ⟨w4.heap.size, 0, none⟩ = some (.slice q17A0 r12.length q17c0) := (blk_cell K6.out 0).trans rfl
  have z6_1 : w14.cell? ⟨w4.heap.size, 1, none⟩ = some (.slice q17A1 r13.length q17c1) := (blk_cell K6.out 1).trans rfl
  have z6_2 : w14.cell? ⟨w4.heap.size, 2, none⟩ = some (.int .i64 r14) := (blk_cell K6.out 2).trans rfl
  have z6_3 : w14.cell? ⟨w4.heap.size, 3, none⟩ = some (.bool r15) := (blk_cell K6.out 3).trans rfl
  go_wp2_with fail
  clear y9 z9_0 z9_1 z9_2 z9_3 y6 z6_0 z6_1 z6_2 z6_3
  refine (laws_eqDisk.calls k_E22 _ _ r12 _ _ r13 r14 r15 _ _ r12 _ _ r13 r14 r15 true _ (Kd.R_reads' q21X0.out).2.2 (Kd.R_reads' q21X0.out).2.1 (Kd.S_reads' q21X1.out).2.2 (Kd.S_reads' q21X1.out).2.1 (Kd.R_reads' q17X0.out).2.2 (Kd.R_reads' q17X0.out).2.1 (Kd.S_reads' q17X1.out).2.2 (Kd.S_reads' q17X1.out).2.1 H_E22.out).mono ?_
  rintro e w15 ⟨rfl, gb⟩
  have hz15 : w14.heap.size + 0 ≤ w15.heap.size := by have := gb.size; first | omega | (simp at this; omega)
  have N_HB := Aside0.mk (below_step HB.out gb)
  have N_q8X0 := Aside0.mk (Kd.R_below q8X0.out gb)
  have N_q8X1 := Aside0.mk (Kd.S_below q8X1.out gb)
  have N_q11X0 := Aside0.mk (Kd.R_below q11X0.out gb)
  have N_q17X0 := Aside0.mk (Kd.R_below q17X0.out gb)
  have N_q17X1 := Aside0.mk (Kd.S_below q17X1.out gb)
  have N_q21X0 := Aside0.mk (Kd.R_below q21X0.out gb)
  have N_q21X1 := Aside0.mk (Kd.S_below q21X1.out gb)
  have N_q23X0 := Aside0.mk (Kd.R_below q23X0.out gb)
  have N_q23X1 := Aside0.mk (Kd.S_below q23X1.out gb)
  have N_q25X0 := Aside0.mk (Kd.R_below q25X0.out gb)
  have N_K2 := Aside0.mk (blk_below K2.out gb)
  have N_K6 := Aside0.mk (blk_below K6.out gb)
  have N_K9 := Aside0.mk (blk_below K9.out gb)
  clear HB q8X0 q8X1 q11X0 q17X0 q17X1 q21X0 q21X1 q23X0 q23X1 q25X0 K2 K6 K9
  have HB := N_HB
  have q8X0 := N_q8X0
  have q8X1 := N_q8X1
  have q11X0 := N_q11X0
  have q17X0 := N_q17X0
  have q17X1 := N_q17X1
  have q21X0 := N_q21X0
  have q21X1 := N_q21X1
  have q23X0 := N_q23X0
  have q23X1 := N_q23X1
  have q25X0 := N_q25X0
  have K2 := N_K2
  have K6 := N_K6
  have K9 := N_K9
  clear N_HB N_q8X0 N_q8X1 N_q11X0 N_q17X0 N_q17X1 N_q21X0 N_q21X1 N_q23X0 N_q23X1 N_q25X0 N_K2 N_K6 N_K9
  clear gb
  have y9 : w7.heap.size < w15.heap.size := by omega
  have z9_0 : w15.cell? ⟨w7.heap.size, 0, none⟩ = some (.slice q21A0 r12.length q21c0) := (blk_cell K9.out 0).trans rfl
  have z9_1 : w15.cell? ⟨w7.heap.size, 1, none⟩ = some (.slice q21A1 r13.length q21c1) := (blk_cell K9.out 1).trans rfl
  have z9_2 : w15.cell? ⟨w7.heap.size, 2, none⟩ = some (.int .i64 r14) := (blk_cell K9.out 2).trans rfl
  have z9_3 : w15.cell? ⟨w7.heap.size, 3, none⟩ = some (.bool r15) := (blk_cell K9.out 3).trans rfl
  go_wp2_with fail
  clear y9 z9_0 z9_1 z9_2 z9_3
  refine (laws_markDisk.own k_E38 k_E41 (w6.heap.size) (w7.heap.size) _ _ r14 r15 r12 r13 1 m36 m39 l37 l40 w _ (by have := HB.out.size; omega) HB.out q21X0.out q21X1.out H_E38.out H_E41.out).mono ?_
  rintro e w16 ⟨rfl, g_0, g_1, gB, hk⟩
  have hz16 : w15.heap.size + 0 ≤ w16.heap.size := by have := hk.1; first | omega | (simp at this; omega)
  have N_q8X0 := Aside0.mk (Kd.R_kept q8X0.out hk (fun k hk1 hk2 => by have := hk1.1; omega))
  have N_q8X1 := Aside0.mk (Kd.S_kept q8X1.out hk (fun k hk1 hk2 => by have := hk1.1; omega))
  have N_q11X0 := Aside0.mk (Kd.R_kept q11X0.out hk (fun k hk1 hk2 => by have := hk1.1; omega))
  have N_q17X0 := Aside0.mk (Kd.R_kept q17X0.out hk (fun k hk1 hk2 => by have := hk1.1; omega))
  have N_q17X1 := Aside0.mk (Kd.S_kept q17X1.out hk (fun k hk1 hk2 => by have := hk1.1; omega))
  have N_q23X0 := Aside0.mk (Kd.R_kept q23X0.out hk (fun k hk1 hk2 => by have := hk1.1; omega))
  have N_q23X1 := Aside0.mk (Kd.S_kept q23X1.out hk (fun k hk1 hk2 => by have := hk1.1; omega))
  have N_q25X0 := Aside0.mk (Kd.R_kept q25X0.out hk (fun k hk1 hk2 => by have := hk1.1; omega))
  have N_K2 := Aside0.mk (blk_kept K2.out hk (fun hk2 => by omega))
  have N_K6 := Aside0.mk (blk_kept K6.out hk (fun hk2 => by omega))
  have N_K9 := Aside0.mk (blk_kept K9.out hk (fun hk2 => by omega))
  clear q8X0 q8X1 q11X0 q17X0 q17X1 q23X0 q23X1 q25X0 K2 K6 K9
  have q8X0 := N_q8X0
  have q8X1 := N_q8X1
  have q11X0 := N_q11X0
  have q17X0 := N_q17X0
  have q17X1 := N_q17X1
  have q23X0 := N_q23X0
  have q23X1 := N_q23X1
  have q25X0 := N_q25X0
  have K2 := N_K2
  have K6 := N_K6
  have K9 := N_K9
  clear N_q8X0 N_q8X1 N_q11X0 N_q17X0 N_q17X1 N_q23X0 N_q23X1 N_q25X0 N_K2 N_K6 N_K9
  clear HB hk
  have HB := Aside0.mk gB
  clear gB
  clear q21X0
  have q21X0 := Aside0.mk g_0
  clear g_0
  clear q21X1
  have q21X1 := Aside0.mk g_1
  clear g_1
  have ev_ : (.slice q21A0 r12.length q21c0 : Value) = .slice q21A0 l37.length q21c0 := by rw [(Kd.R_reads' q21X0.out).1]
  try rw [ev_] at q21X0
  try rw [ev_] at q21X1
  try rw [ev_] at K9
  try rw [ev_]
  clear ev_
  have ev_ : (.slice q21A1 r13.length q21c1 : Value) = .slice q21A1 l40.length q21c1 := by rw [(Kd.S_reads' q21X1.out).1]
  try rw [ev_] at q21X0
  try rw [ev_] at q21X1
  try rw [ev_] at K9
  try rw [ev_]
  clear ev_
  have y9 : w7.heap.size < w16.heap.size := by omega
  have z9_0 : w16.cell? ⟨w7.heap.size, 0, none⟩ = some (.slice q21A0 l37.length q21c0) := (blk_cell K9.out 0).trans rfl
  have z9_1 : w16.cell? ⟨w7.heap.size, 1, none⟩ = some (.slice q21A1 l40.length q21c1) := (blk_cell K9.out 1).trans rfl
  have z9_2 : w16.cell? ⟨w7.heap.size, 2, none⟩ = some (.int .i64 r14) := (blk_cell K9.out 2).trans rfl
  have z9_3 : w16.cell? ⟨w7.heap.size, 3, none⟩ = some (.bool r15) := (blk_cell K9.out 3).trans rfl
  go_wp2_with fail
  clear y9 z9_0 z9_1 z9_2 z9_3
  refine (laws_heldDisk.calls k_E42 _ _ l37 _ _ l40 r14 r15 1 m39 _ (Kd.R_reads' q21X0.out).2.2 (Kd.R_reads' q21X0.out).2.1 (Kd.S_reads' q21X1.out).2.2 (Kd.S_reads' q21X1.out).2.1 H_E42.out).mono ?_
  rintro e w17 ⟨rfl, gb⟩
  have hz17 : w16.heap.size + 0 ≤ w17.heap.size := by have := gb.size; first | omega | (simp at this; omega)
  have N_HB := Aside0.mk (below_step HB.out gb)
  have N_q8X0 := Aside0.mk (Kd.R_below q8X0.out gb)
  have N_q8X1 := Aside0.mk (Kd.S_below q8X1.out gb)
  have N_q11X0 := Aside0.mk (Kd.R_below q11X0.out gb)
  have N_q17X0 := Aside0.mk (Kd.R_below q17X0.out gb)
  have N_q17X1 := Aside0.mk (Kd.S_below q17X1.out gb)
  have N_q21X0 := Aside0.mk (Kd.R_below q21X0.out gb)
  have N_q21X1 := Aside0.mk (Kd.S_below q21X1.out gb)
  have N_q23X0 := Aside0.mk (Kd.R_below q23X0.out gb)
  have N_q23X1 := Aside0.mk (Kd.S_below q23X1.out gb)
  have N_q25X0 := Aside0.mk (Kd.R_below q25X0.out gb)
  have N_K2 := Aside0.mk (blk_below K2.out gb)
  have N_K6 := Aside0.mk (blk_below K6.out gb)
  have N_K9 := Aside0.mk (blk_below K9.out gb)
  clear HB q8X0 q8X1 q11X0 q17X0 q17X1 q21X0 q21X1 q23X0 q23X1 q25X0 K2 K6 K9
  have HB := N_HB
  have q8X0 := N_q8X0
  have q8X1 := N_q8X1
  have q11X0 := N_q11X0
  have q17X0 := N_q17X0
  have q17X1 := N_q17X1
  have q21X0 := N_q21X0
  have q21X1 := N_q21X1
  have q23X0 := N_q23X0
  have q23X1 := N_q23X1
  have q25X0 := N_q25X0
  have K2 := N_K2
  have K6 := N_K6
  have K9 := N_K9
  clear N_HB N_q8X0 N_q8X1 N_q11X0 N_q17X0 N_q17X1 N_q21X0 N_q21X1 N_q23X0 N_q23X1 N_q25X0 N_K2 N_K6 N_K9
  clear gb
  have y2 : w.heap.size < w17.heap.size := by omega
  have z2_0 : w17.cell? ⟨w.heap.size, 0, none⟩ = some (.slice A0_0 l0_0.length c0_0) := (blk_cell K2.out 0).trans rfl
  have z2_1 : w17.cell? ⟨w.heap.size, 1, none⟩ = some (.slice A0_1 l0_1.length c0_1) := (blk_cell K2.out 1).trans rfl
  have z2_2 : w17.cell? ⟨w.heap.size, 2, none⟩ = some (.int .i64 a0_2) := (blk_cell K2.out 2).trans rfl
  have z2_3 : w17.cell? ⟨w.heap.size, 3, none⟩ = some (.bool a0_3) := (blk_cell K2.out 3).trans rfl
  go_wp2_with fail
  clear y2 z2_0 z2_1 z2_2 z2_3
  refine (laws_toDisk.calls k_E7 _ _ l0_0 _ _ l0_1 a0_2 a0_3 r3 r4 r5 r6 _ (Kd.C_below HR0_0.out HB.out) HC0_0.out (Kd.C_below HR0_1.out HB.out) HC0_1.out H_E7.out).mono ?_
  rintro e w18 ⟨q43u0, q43u1, rfl, q43g0, q43g1, gb⟩
  have q43X0 := Aside0.mk (R_iv q43g0 w.heap.size (w17.heap.size) (by have := HB.out.size; first | (simp; done) | (simp; omega) | omega) (by simp))
  clear q43g0
  obtain ⟨q43A0, q43c0, rfl⟩ := Kd.R_slice q43X0.out
  have q43X1 := Aside0.mk (S_iv q43g1 w.heap.size (w17.heap.size) (by have := HB.out.size; first | (simp; done) | (simp; omega) | omega) (by simp))
  clear q43g1
  obtain ⟨q43A1, q43c1, rfl⟩ := Kd.S_slice q43X1.out
  have hz18 : w17.heap.size + 0 ≤ w18.heap.size := by have := gb.size; first | omega | (simp at this; omega)
  have N_HB := Aside0.mk (below_step HB.out gb)
  have N_q8X0 := Aside0.mk (Kd.R_below q8X0.out gb)
  have N_q8X1 := Aside0.mk (Kd.S_below q8X1.out gb)
  have N_q11X0 := Aside0.mk (Kd.R_below q11X0.out gb)
  have N_q17X0 := Aside0.mk (Kd.R_below q17X0.out gb)
  have N_q17X1 := Aside0.mk (Kd.S_below q17X1.out gb)
  have N_q21X0 := Aside0.mk (Kd.R_below q21X0.out gb)
  have N_q21X1 := Aside0.mk (Kd.S_below q21X1.out gb)
  have N_q23X0 := Aside0.mk (Kd.R_below q23X0.out gb)
  have N_q23X1 := Aside0.mk (Kd.S_below q23X1.out gb)
  have N_q25X0 := Aside0.mk (Kd.R_below q25X0.out gb)
  have N_K2 := Aside0.mk (blk_below K2.out gb)
  have N_K6 := Aside0.mk (blk_below K6.out gb)
  have N_K9 := Aside0.mk (blk_below K9.out gb)
  clear HB q8X0 q8X1 q11X0 q17X0 q17X1 q21X0 q21X1 q23X0 q23X1 q25X0 K2 K6 K9
  have HB := N_HB
  have q8X0 := N_q8X0
  have q8X1 := N_q8X1
  have q11X0 := N_q11X0
  have q17X0 := N_q17X0
  have q17X1 := N_q17X1
  have q21X0 := N_q21X0
  have q21X1 := N_q21X1
  have q23X0 := N_q23X0
  have q23X1 := N_q23X1
  have q25X0 := N_q25X0
  have K2 := N_K2
  have K6 := N_K6
  have K9 := N_K9
  clear N_HB N_q8X0 N_q8X1 N_q11X0 N_q17X0 N_q17X1 N_q21X0 N_q21X1 N_q23X0 N_q23X1 N_q25X0 N_K2 N_K6 N_K9
  clear gb
  have y2 : w.heap.size < w18.heap.size := by omega
  have z2_0 : w18.cell? ⟨w.heap.size, 0, none⟩ = some (.slice A0_0 l0_0.length c0_0) := (blk_cell K2.out 0).trans rfl
  have z2_1 : w18.cell? ⟨w.heap.size, 1, none⟩ = some (.slice A0_1 l0_1.length c0_1) := (blk_cell K2.out 1).trans rfl
  have z2_2 : w18.cell? ⟨w.heap.size, 2, none⟩ = some (.int .i64 a0_2) := (blk_cell K2.out 2).trans rfl
  have z2_3 : w18.cell? ⟨w.heap.size, 3, none⟩ = some (.bool a0_3) := (blk_cell K2.out 3).trans rfl
  go_wp2_with fail
  clear y2 z2_0 z2_1 z2_2 z2_3
  refine (laws_toBoolS.calls k_E10 _ _ l1 r9 _ (Kd.C_below HR1.out HB.out) HC1.out H_E10.out).mono ?_
  rintro e w19 ⟨q44u0, rfl, q44g0, gb⟩
  have q44X0 := Aside0.mk (R_iv q44g0 w.heap.size (w18.heap.size) (by have := HB.out.size; first | (simp; done) | (simp; omega) | omega) (by simp))
  clear q44g0
  obtain ⟨q44A0, q44c0, rfl⟩ := Kd.R_slice q44X0.out
  have hz19 : w18.heap.size + 0 ≤ w19.heap.size := by have := gb.size; first | omega | (simp at this; omega)
  have N_HB := Aside0.mk (below_step HB.out gb)
  have N_q8X0 := Aside0.mk (Kd.R_below q8X0.out gb)
  have N_q8X1 := Aside0.mk (Kd.S_below q8X1.out gb)
  have N_q11X0 := Aside0.mk (Kd.R_below q11X0.out gb)
  have N_q17X0 := Aside0.mk (Kd.R_below q17X0.out gb)
  have N_q17X1 := Aside0.mk (Kd.S_below q17X1.out gb)
  have N_q21X0 := Aside0.mk (Kd.R_below q21X0.out gb)
  have N_q21X1 := Aside0.mk (Kd.S_below q21X1.out gb)
  have N_q23X0 := Aside0.mk (Kd.R_below q23X0.out gb)
  have N_q23X1 := Aside0.mk (Kd.S_below q23X1.out gb)
  have N_q25X0 := Aside0.mk (Kd.R_below q25X0.out gb)
  have N_q43X0 := Aside0.mk (Kd.R_below q43X0.out gb)
  have N_q43X1 := Aside0.mk (Kd.S_below q43X1.out gb)
  have N_K2 := Aside0.mk (blk_below K2.out gb)
  have N_K6 := Aside0.mk (blk_below K6.out gb)
  have N_K9 := Aside0.mk (blk_below K9.out gb)
  clear HB q8X0 q8X1 q11X0 q17X0 q17X1 q21X0 q21X1 q23X0 q23X1 q25X0 q43X0 q43X1 K2 K6 K9
  have HB := N_HB
  have q8X0 := N_q8X0
  have q8X1 := N_q8X1
  have q11X0 := N_q11X0
  have q17X0 := N_q17X0
  have q17X1 := N_q17X1
  have q21X0 := N_q21X0
  have q21X1 := N_q21X1
  have q23X0 := N_q23X0
  have q23X1 := N_q23X1
  have q25X0 := N_q25X0
  have q43X0 := N_q43X0
  have q43X1 := N_q43X1
  have K2 := N_K2
  have K6 := N_K6
  have K9 := N_K9
  clear N_HB N_q8X0 N_q8X1 N_q11X0 N_q17X0 N_q17X1 N_q21X0 N_q21X1 N_q23X0 N_q23X1 N_q25X0 N_q43X0 N_q43X1 N_K2 N_K6 N_K9
  clear gb
  have y2 : w.heap.size < w19.heap.size := by omega
  have z2_0 : w19.cell? ⟨w.heap.size, 0, none⟩ = some (.slice A0_0 l0_0.length c0_0) := (blk_cell K2.out 0).trans rfl
  have z2_1 : w19.cell? ⟨w.heap.size, 1, none⟩ = some (.slice A0_1 l0_1.length c0_1) := (blk_cell K2.out 1).trans rfl
  have z2_2 : w19.cell? ⟨w.heap.size, 2, none⟩ = some (.int .i64 a0_2) := (blk_cell K2.out 2).trans rfl
  have z2_3 : w19.cell? ⟨w.heap.size, 3, none⟩ = some (.bool a0_3) := (blk_cell K2.out 3).trans rfl
  go_wp2_with fail
  clear y2 z2_0 z2_1 z2_2 z2_3
  refine (impl_DiskCrash.calls _ _ r3 _ _ r4 r5 r6 _ _ r9 r12 r13 r14 r15 _ (Kd.R_reads' q43X0.out).2.2 (Kd.R_reads' q43X0.out).2.1 (Kd.S_reads' q43X1.out).2.2 (Kd.S_reads' q43X1.out).2.1 (Kd.R_reads' q44X0.out).2.2 (Kd.R_reads' q44X0.out).2.1 H_E20.out).mono ?_
  rintro e w20 ⟨q45u0, q45u1, rfl, q45g0, q45g1, gb⟩
  have q45X0 := Aside0.mk (R_iv q45g0 w.heap.size (w19.heap.size) (by have := HB.out.size; first | (simp; done) | (simp; omega) | omega) (by simp))
  clear q45g0
  obtain ⟨q45A0, q45c0, rfl⟩ := Kd.R_slice q45X0.out
  have q45X1 := Aside0.mk (S_iv q45g1 w.heap.size (w19.heap.size) (by have := HB.out.size; first | (simp; done) | (simp; omega) | omega) (by simp))
  clear q45g1
  obtain ⟨q45A1, q45c1, rfl⟩ := Kd.S_slice q45X1.out
  have hz20 : w19.heap.size + 0 ≤ w20.heap.size := by have := gb.size; first | omega | (simp at this; omega)
  have N_HB := Aside0.mk (below_step HB.out gb)
  have N_q8X0 := Aside0.mk (Kd.R_below q8X0.out gb)
  have N_q8X1 := Aside0.mk (Kd.S_below q8X1.out gb)
  have N_q11X0 := Aside0.mk (Kd.R_below q11X0.out gb)
  have N_q17X0 := Aside0.mk (Kd.R_below q17X0.out gb)
  have N_q17X1 := Aside0.mk (Kd.S_below q17X1.out gb)
  have N_q21X0 := Aside0.mk (Kd.R_below q21X0.out gb)
  have N_q21X1 := Aside0.mk (Kd.S_below q21X1.out gb)
  have N_q23X0 := Aside0.mk (Kd.R_below q23X0.out gb)
  have N_q23X1 := Aside0.mk (Kd.S_below q23X1.out gb)
  have N_q25X0 := Aside0.mk (Kd.R_below q25X0.out gb)
  have N_q43X0 := Aside0.mk (Kd.R_below q43X0.out gb)
  have N_q43X1 := Aside0.mk (Kd.S_below q43X1.out gb)
  have N_q44X0 := Aside0.mk (Kd.R_below q44X0.out gb)
  have N_K2 := Aside0.mk (blk_below K2.out gb)
  have N_K6 := Aside0.mk (blk_below K6.out gb)
  have N_K9 := Aside0.mk (blk_below K9.out gb)
  clear HB q8X0 q8X1 q11X0 q17X0 q17X1 q21X0 q21X1 q23X0 q23X1 q25X0 q43X0 q43X1 q44X0 K2 K6 K9
  have HB := N_HB
  have q8X0 := N_q8X0
  have q8X1 := N_q8X1
  have q11X0 := N_q11X0
  have q17X0 := N_q17X0
  have q17X1 := N_q17X1
  have q21X0 := N_q21X0
  have q21X1 := N_q21X1
  have q23X0 := N_q23X0
  have q23X1 := N_q23X1
  have q25X0 := N_q25X0
  have q43X0 := N_q43X0
  have q43X1 := N_q43X1
  have q44X0 := N_q44X0
  have K2 := N_K2
  have K6 := N_K6
  have K9 := N_K9
  clear N_HB N_q8X0 N_q8X1 N_q11X0 N_q17X0 N_q17X1 N_q21X0 N_q21X1 N_q23X0 N_q23X1 N_q25X0 N_q43X0 N_q43X1 N_q44X0 N_K2 N_K6 N_K9
  clear gb
  have y6 : w4.heap.size < w20.heap.size := by omega
  have z6_0 : w20.cell? ⟨w4.heap.size, 0, none⟩ = some (.slice q17A0 r12.length q17c0) := (blk_cell K6.out 0).trans rfl
  have z6_1 : w20.cell? ⟨w4.heap.size, 1, none⟩ = some (.slice q17A1 r13.length q17c1) := (blk_cell K6.out 1).trans rfl
  have z6_2 : w20.cell? ⟨w4.heap.size, 2, none⟩ = some (.int .i64 r14) := (blk_cell K6.out 2).trans rfl
  have z6_3 : w20.cell? ⟨w4.heap.size, 3, none⟩ = some (.bool r15) := (blk_cell K6.out 3).trans rfl
  go_wp2_with fail
  clear y6 z6_0 z6_1 z6_2 z6_3
  refine (laws_eqDisk.calls k_E22 _ _ r12 _ _ r13 r14 r15 _ _ r12 _ _ r13 r14 r15 true _ (Kd.C_alloc (Kd.R_reads' q45X0.out).2.2 _) (Kd.R_reads' q45X0.out).2.1 (Kd.C_alloc (Kd.S_reads' q45X1.out).2.2 _) (Kd.S_reads' q45X1.out).2.1 (Kd.C_alloc (Kd.R_reads' q17X0.out).2.2 _) (Kd.R_reads' q17X0.out).2.1 (Kd.C_alloc (Kd.S_reads' q17X1.out).2.2 _) (Kd.S_reads' q17X1.out).2.1 H_E22.out).mono ?_
  rintro e w21 ⟨rfl, gb⟩
  have hz21 : w20.heap.size + 1 ≤ w21.heap.size := by have := gb.size; first | omega | (simp at this; omega)
  have N_HB := Aside0.mk (below_step (below_alloc HB.out _) gb)
  have N_q8X0 := Aside0.mk (Kd.R_below (Kd.R_alloc q8X0.out _) gb)
  have N_q8X1 := Aside0.mk (Kd.S_below (Kd.S_alloc q8X1.out _) gb)
  have N_q11X0 := Aside0.mk (Kd.R_below (Kd.R_alloc q11X0.out _) gb)
  have N_q17X0 := Aside0.mk (Kd.R_below (Kd.R_alloc q17X0.out _) gb)
  have N_q17X1 := Aside0.mk (Kd.S_below (Kd.S_alloc q17X1.out _) gb)
  have N_q21X0 := Aside0.mk (Kd.R_below (Kd.R_alloc q21X0.out _) gb)
  have N_q21X1 := Aside0.mk (Kd.S_below (Kd.S_alloc q21X1.out _) gb)
  have N_q23X0 := Aside0.mk (Kd.R_below (Kd.R_alloc q23X0.out _) gb)
  have N_q23X1 := Aside0.mk (Kd.S_below (Kd.S_alloc q23X1.out _) gb)
  have N_q25X0 := Aside0.mk (Kd.R_below (Kd.R_alloc q25X0.out _) gb)
  have N_q43X0 := Aside0.mk (Kd.R_below (Kd.R_alloc q43X0.out _) gb)
  have N_q43X1 := Aside0.mk (Kd.S_below (Kd.S_alloc q43X1.out _) gb)
  have N_q44X0 := Aside0.mk (Kd.R_below (Kd.R_alloc q44X0.out _) gb)
  have N_q45X0 := Aside0.mk (Kd.R_below (Kd.R_alloc q45X0.out _) gb)
  have N_q45X1 := Aside0.mk (Kd.S_below (Kd.S_alloc q45X1.out _) gb)
  have N_K2 := Aside0.mk (blk_below (blk_alloc K2.out _) gb)
  have N_K6 := Aside0.mk (blk_below (blk_alloc K6.out _) gb)
  have N_K9 := Aside0.mk (blk_below (blk_alloc K9.out _) gb)
  have K13 := Aside0.mk (show w21.heap[w20.heap.size]? = some (.cells #[.slice q45A0 r12.length q45c0, .slice q45A1 r13.length q45c1, .int .i64 r14, .bool r15] 25 (0, 0)) from by have := blk_below (blk_new _ _) gb; simpa using this)
  clear HB q8X0 q8X1 q11X0 q17X0 q17X1 q21X0 q21X1 q23X0 q23X1 q25X0 q43X0 q43X1 q44X0 q45X0 q45X1 K2 K6 K9
  have HB := N_HB
  have q8X0 := N_q8X0
  have q8X1 := N_q8X1
  have q11X0 := N_q11X0
  have q17X0 := N_q17X0
  have q17X1 := N_q17X1
  have q21X0 := N_q21X0
  have q21X1 := N_q21X1
  have q23X0 := N_q23X0
  have q23X1 := N_q23X1
  have q25X0 := N_q25X0
  have q43X0 := N_q43X0
  have q43X1 := N_q43X1
  have q44X0 := N_q44X0
  have q45X0 := N_q45X0
  have q45X1 := N_q45X1
  have K2 := N_K2
  have K6 := N_K6
  have K9 := N_K9
  clear N_HB N_q8X0 N_q8X1 N_q11X0 N_q17X0 N_q17X1 N_q21X0 N_q21X1 N_q23X0 N_q23X1 N_q25X0 N_q43X0 N_q43X1 N_q44X0 N_q45X0 N_q45X1 N_K2 N_K6 N_K9
  clear gb
  go_wp2
  go_ret
  exact ⟨rfl, by first | exact HB.out | exact below_alloc HB.out _ | exact below_alloc (below_alloc HB.out _) _ | exact below_alloc (below_alloc (below_alloc HB.out _) _) _⟩

/-! ### zmain_DiskCrash: a text by hand -/
-- needs spec_DiskCrash.f m_DiskCrash.f laws_heldDisk.f
theorem main_DiskCrash (A0 : Option Addr) (c0 : Nat) (l0 : List Int) (A1 : Option Addr) (c1 : Nat) (l1 : List S78) (a2 : Int) (a3 : Bool) (A2 : Option Addr) (c2 : Nat) (l2 : List Bool)
    (F : (l0.length ≤ maxLen ∧ ∀ x ∈ l0, (Lit.int .u8 x).wf = true) ∧ (l1.length ≤ maxLen ∧ ∀ x ∈ l1, (Lit.int .i64 x.f0).wf = true ∧ (x.f1.length ≤ maxLen ∧ ∀ y ∈ x.f1, (Lit.int .u8 y).wf = true)) ∧ (Lit.int .i64 a2).wf = true ∧ True) (_F2 : l2.length ≤ maxLen ∧ ∀ x ∈ l2, True)
    (w : World) (hr0 : Kd.C (Kd.int .u8) w A0 l0.length l0) (hc0 : l0.length ≤ c0) (hr1 : Kd.C k78 w A1 l1.length l1) (hc1 : l1.length ≤ c1) (hr2 : Kd.C Kd.bool w A2 l2.length l2) (hc2 : l2.length ≤ c2) :
    Calls Try.prog 8 #[.agg #[.slice A0 l0.length c0, .slice A1 l1.length c1, .int .i64 a2, .bool a3], .slice A2 l2.length c2] w fun e w' => e = .returned (.bool true) ∧ Below w.heap.size w w' := by
  by_cases cg : 1048576 < l2.length
  · exact guardL1_FnExactDiskCrash A0 c0 l0 A1 c1 l1 a2 a3 A2 c2 l2 w hr0 hc0 hr1 hc1 hr2 hc2 cg
  obtain ⟨r, hr, hok⟩ := szDisk_ev l0 l1 a2 a3 F.1.1 F.2.1.1 (fun x hx => (F.2.1.2 x hx).2.1)
  by_cases c : r < 0
  · exact guard1_FnExactDiskCrash A0 c0 l0 A1 c1 l1 a2 a3 A2 c2 l2 r w hr0 hc0 hr1 hc1 hr2 hc2 hr c (by omega)
  obtain ⟨h0, ok⟩ := hok (by omega)
  have hT := toDisk_ev l0 l1 a2 a3 h0 ok
  have hT2 := toBoolS_ev l2 (by omega)
  generalize cvPend l1 = l1' at hT ok
  have hs := specCrash_ev l0 l1' a2 a3 l2 h0 ok.1
  have hi : m_DiskCrash.f l0 l1' a2 a3 l2 = some (dCrash l0 l1' a2 l2) := if_pos ⟨h0, ok.1, by omega⟩
  have hlen : (dCrash l0 l1' a2 l2).1.length ≤ 65599 ∧ (dCrash l0 l1' a2 l2).2.1 = [] := by
    unfold dCrash
    by_cases cv : vD l0 l1' a2 = true
    · rw [if_pos cv]
      obtain ⟨f1, f2, f3, f4, f5, f6, f7⟩ := vD_facts cv
      exact ⟨by rw [crF_len l0 l1' l2 f7 _ (Nat.le_refl _)]; exact f3, rfl⟩
    · rw [if_neg cv]
      exact ⟨Nat.zero_le _, rfl⟩
  generalize dCrash l0 l1' a2 l2 = g at hs hi hlen
  obtain ⟨r1, r2, r3, r4⟩ := g
  obtain ⟨hl1, hl2⟩ := hlen
  simp only at hl1 hl2
  have hb := mkP_bd l1' ok.2 (1 + l0.length)
  have o1 := ok.1
  have ok2 : okPendS r2 := by rw [hl2]; exact ⟨by simp, by simp⟩
  have hb2 := mkP_bd r2 ok2.2 (1 + r1.length)
  have o2 := ok2.1
  obtain ⟨l2', hm⟩ := markBoolS_ev l2 (mkP (1 + l0.length) l1').1 (by omega) (by omega)
  exact walk_FnExactDiskCrash A0 c0 l0 A1 c1 l1 a2 a3 A2 c2 l2 r l0 l1' a2 a3 l2 r1 r2 r3 r4 (1 + l0.length) (mkB 1 l0) _ _ _ l2' (1 + r1.length) (mkB 1 r1) _ _ w hr0 hc0 hr1 hc1 hr2 hc2 hr (by omega) hT hT2 hs hi (eqDisk_ev r1 r2 r3 r4 (by omega) ok2) (eqDisk_ev l0 l1' a2 a3 h0 ok) (eqBoolS_ev l2 (by omega))
    (markByteS_ev l0 1 (by omega) (by omega)) (markPendS_ev l1' ok.2 _ (by omega) (by omega)) (by omega) hm (by omega) (markByteS_ev r1 1 (by omega) (by omega)) (markPendS_ev r2 ok2.2 _ (by omega) (by omega)) (by omega) (heldDisk_ev r1 r2 r3 r4 (by omega) ok2) (by omega)
end Go.Proofs.Ytbimdcekcemcoaa.PD
