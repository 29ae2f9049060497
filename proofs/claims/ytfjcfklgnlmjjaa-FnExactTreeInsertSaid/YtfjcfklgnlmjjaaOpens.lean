/- How the arguments of a law, as the row's reading has them, are read as plain Lean lists and numbers: one rule a kind of type. No conditions. -/
import Derived.Test.YtfjcfklgnlmjjaaVWords
import Derived.WalkKit
import Derived.ProofKit
import Derived.OpenShut
import Derived.ShutString
import Derived.ChangeOld
import Derived.Below
import Derived.SizedLaws
import Derived.Deep.Slices
import Derived.Deep.Strs
import Derived.Lib.SmallJoins
namespace Go.Proofs.Ytfjcfklgnlmjjaa.Opens
open Go.RowKit Go.ChangeShapes Go.WideShapes Go.ChangeAt Go.Proofs.YtfjcfklgnlmjjaaW.PrintWords
set_option linter.unusedVariables false
section
variable {P : Program} {α β γ : Type}
/-- Whatever is read at type t is of kind d. -/
def Opn (P : Program) (t : TypeId) (d : Kd α) (F : α → Prop) : Prop :=
  ∀ (H : Type) (enc : TypeId × Value → H) (w : World) (base : Nat) (spare : Nat → Bool) (held : Bool) (fuel : Nat) (cs : List Value) (x : DataW H × List MemPlace),
    DataW.trod enc P w base spare held fuel t cs = some x → ∃ a, d.K w a cs ∧ F a
theorem Opn.int {t : TypeId} {k : IntKind} (ht : P.underlying t = some (.int k)) : Opn P t (Kd.int k) (fun n => (Lit.int k n).wf = true) := by
  intro H enc w base spare held fuel cs x h
  cases fuel with
  | zero => simp [DataW.trod] at h
  | succ fuel =>
    unfold DataW.trod at h
    rw [ht] at h
    split at h <;> simp_all
    exact ⟨_, rfl, h.1.2⟩
theorem Opn.bool {t : TypeId} (ht : P.underlying t = some .bool) : Opn P t Kd.bool (fun _ => True) := by
  intro H enc w base spare held fuel cs x h
  obtain ⟨b, rfl, _⟩ := DataW.trod_bool ht h
  exact ⟨b, rfl, trivial⟩
theorem Opn.string {t : TypeId} (ht : P.underlying t = some .string) : Opn P t Kd.string (fun s => s.size ≤ maxLen) := by
  intro H enc w base spare held fuel cs x h
  cases fuel with
  | zero => simp [DataW.trod] at h
  | succ fuel =>
    unfold DataW.trod at h
    rw [ht] at h
    split at h <;> simp_all
    exact ⟨_, rfl, h.1⟩
theorem reads_rows {w : World} {d : Kd α} {F : α → Prop} {a : Addr} : ∀ (n : Nat), (∀ i, i < n → ∃ cs x, (∀ j u, cs[j]? = some u → w.cell? (a.add (i * d.sz + j)) = some u) ∧ d.K w x cs ∧ F x) → ∃ xs : List α, xs.length = n ∧ (∀ i p, xs[i]? = some p → ∃ cs, cs.length = d.sz ∧ d.K w p cs ∧ ∀ j u, cs[j]? = some u → w.cell? (a.add (i * d.sz + j)) = some u) ∧ ∀ x ∈ xs, F x
  | 0, _ => ⟨[], rfl, fun i p h => by simp at h, fun x h => by simp at h⟩
  | n + 1, h => by
    obtain ⟨xs, hl, hx, hF⟩ := reads_rows n (fun i hi => h i (by omega))
    obtain ⟨cs, x, hc, hk, hf⟩ := h n (by omega)
    refine ⟨xs ++ [x], by simp [hl], fun i p hp => ?_, fun y hy => ?_⟩
    · rcases Nat.lt_or_ge i xs.length with hi | hi
      · rw [List.getElem?_append_left hi] at hp
        exact hx i p hp
      · rw [List.getElem?_append_right hi] at hp
        have e : i = n := by
          by_cases e : i - xs.length = 0
          · omega
          · rw [List.getElem?_eq_none (by simp; omega)] at hp
            cases hp
        subst e
        rw [show i - xs.length = 0 by omega] at hp
        simp at hp
        subst hp
        exact ⟨cs, d.K_len hk, hk, hc⟩
    · rcases List.mem_append.1 hy with hy | hy
      · exact hF y hy
      · rw [List.mem_singleton.1 hy]
        exact hf
theorem Opn.slice {t e : TypeId} {d : Kd α} {F : α → Prop} (ht : P.underlying t = some (.slice e)) (hs : P.cellsOf e = d.sz) (h : Opn P e d F) : Opn P t (Kd.slice e d) (fun xs => xs.length ≤ maxLen ∧ ∀ x ∈ xs, F x) := by
  intro H enc w base spare held fuel cs x hx
  rcases Go.Deep.open_slice ht hx with ⟨rfl, _⟩ | ⟨a, len, cap, m, n, D, Pl, rfl, _, hlc, hcm, hm, _, hel⟩
  · exact ⟨[], ⟨none, 0, rfl, Nat.le_refl _, rfl, by simp, fun h => absurd h (Nat.lt_irrefl 0)⟩, by simp, by simp⟩
  · obtain ⟨xs, hl, hr, hF⟩ := reads_rows (w := w) (d := d) (F := F) (a := a) len (fun i hi => by
      obtain ⟨cs, hc, hd⟩ := hel i (by rw [hm]; split <;> omega)
      obtain ⟨y, hk, hf⟩ := h H enc w base spare held n cs _ hd
      refine ⟨cs, y, fun j u hu => ?_, hk, hf⟩
      obtain ⟨_, h2, h3⟩ := World.cells?_some hc
      rw [← hs, ← Addr.add_add]
      exact (h3 j (by have := (List.getElem?_eq_some_iff.1 hu).1; omega)).trans hu)
    subst hl
    exact ⟨xs, ⟨some a, cap, rfl, hlc, rfl, Nat.le_trans hlc hcm, fun _ => ⟨a, rfl, hr⟩⟩, Nat.le_trans hlc hcm, hF⟩
theorem Opn.struct2 {α0 : Type} {α1 : Type} {t : TypeId} {f0 f1 : Field} {d0 : Kd α0} {d1 : Kd α1} {F0 : α0 → Prop} {F1 : α1 → Prop} (ht : P.underlying t = some (.struct #[f0, f1]))
    (o0 : f0.offset = 0) (c0 : P.cellsOf f0.type = d0.sz) (h0 : Opn P f0.type d0 F0) (o1 : f1.offset = d0.sz) (c1 : P.cellsOf f1.type = d1.sz) (h1 : Opn P f1.type d1 F1) (hc : P.cellsOf t = d0.sz + d1.sz) :
    Opn P t (Kd.pair d0 d1) (fun x => F0 x.1 ∧ F1 x.2) := by
  intro H enc w base spare held fuel cs x hx
  obtain ⟨xs, n, _, rfl, hl, hlen, hf⟩ := DataW.trod_struct ht hx
  obtain ⟨a0, k0, g0⟩ := h0 H enc w base spare held n _ _ ((hf 0 f0 rfl).trans (List.getElem?_eq_getElem (by rw [hlen]; simp)))
  rw [o0, c0] at k0
  obtain ⟨a1, k1, g1⟩ := h1 H enc w base spare held n _ _ ((hf 1 f1 rfl).trans (List.getElem?_eq_getElem (by rw [hlen]; simp)))
  rw [o1, c1] at k1
  rw [hc] at hl
  have e : cs = (cs.drop (0)).take d0.sz ++ ((cs.drop (d0.sz)).take d1.sz) := by
    have last : (cs.drop (d0.sz)).take d1.sz = cs.drop (d0.sz) := List.take_of_length_le (by rw [List.length_drop]; omega)
    rw [last]
    rw [show cs.drop (d0.sz) = (cs.drop (0)).drop d0.sz by rw [List.drop_drop, Nat.zero_add], List.take_append_drop]
    rw [List.drop_zero]
  refine ⟨(a0, a1), ?_, g0, g1⟩
  rw [e]
  exact ⟨_, _, rfl, k0, k1⟩
theorem Opn.struct3 {α0 : Type} {α1 : Type} {α2 : Type} {t : TypeId} {f0 f1 f2 : Field} {d0 : Kd α0} {d1 : Kd α1} {d2 : Kd α2} {F0 : α0 → Prop} {F1 : α1 → Prop} {F2 : α2 → Prop} (ht : P.underlying t = some (.struct #[f0, f1, f2]))
    (o0 : f0.offset = 0) (c0 : P.cellsOf f0.type = d0.sz) (h0 : Opn P f0.type d0 F0) (o1 : f1.offset = d0.sz) (c1 : P.cellsOf f1.type = d1.sz) (h1 : Opn P f1.type d1 F1) (o2 : f2.offset = d0.sz + d1.sz) (c2 : P.cellsOf f2.type = d2.sz) (h2 : Opn P f2.type d2 F2) (hc : P.cellsOf t = d0.sz + d1.sz + d2.sz) :
    Opn P t (Kd.pair d0 (Kd.pair d1 d2)) (fun x => F0 x.1 ∧ F1 x.2.1 ∧ F2 x.2.2) := by
  intro H enc w base spare held fuel cs x hx
  obtain ⟨xs, n, _, rfl, hl, hlen, hf⟩ := DataW.trod_struct ht hx
  obtain ⟨a0, k0, g0⟩ := h0 H enc w base spare held n _ _ ((hf 0 f0 rfl).trans (List.getElem?_eq_getElem (by rw [hlen]; simp)))
  rw [o0, c0] at k0
  obtain ⟨a1, k1, g1⟩ := h1 H enc w base spare held n _ _ ((hf 1 f1 rfl).trans (List.getElem?_eq_getElem (by rw [hlen]; simp)))
  rw [o1, c1] at k1
  obtain ⟨a2, k2, g2⟩ := h2 H enc w base spare held n _ _ ((hf 2 f2 rfl).trans (List.getElem?_eq_getElem (by rw [hlen]; simp)))
  rw [o2, c2] at k2
  rw [hc] at hl
  have e : cs = (cs.drop (0)).take d0.sz ++ ((cs.drop (d0.sz)).take d1.sz ++ ((cs.drop (d0.sz + d1.sz)).take d2.sz)) := by
    have last : (cs.drop (d0.sz + d1.sz)).take d2.sz = cs.drop (d0.sz + d1.sz) := List.take_of_length_le (by rw [List.length_drop]; omega)
    rw [last]
    rw [show cs.drop (d0.sz + d1.sz) = (cs.drop (d0.sz)).drop d1.sz by rw [List.drop_drop], List.take_append_drop]
    rw [show cs.drop (d0.sz) = (cs.drop (0)).drop d0.sz by rw [List.drop_drop, Nat.zero_add], List.take_append_drop]
    rw [List.drop_zero]
  refine ⟨(a0, a1, a2), ?_, g0, g1, g2⟩
  rw [e]
  exact ⟨_, _, rfl, k0, ⟨_, _, rfl, k1, k2⟩⟩
theorem Opn.struct4 {α0 : Type} {α1 : Type} {α2 : Type} {α3 : Type} {t : TypeId} {f0 f1 f2 f3 : Field} {d0 : Kd α0} {d1 : Kd α1} {d2 : Kd α2} {d3 : Kd α3} {F0 : α0 → Prop} {F1 : α1 → Prop} {F2 : α2 → Prop} {F3 : α3 → Prop} (ht : P.underlying t = some (.struct #[f0, f1, f2, f3]))
    (o0 : f0.offset = 0) (c0 : P.cellsOf f0.type = d0.sz) (h0 : Opn P f0.type d0 F0) (o1 : f1.offset = d0.sz) (c1 : P.cellsOf f1.type = d1.sz) (h1 : Opn P f1.type d1 F1) (o2 : f2.offset = d0.sz + d1.sz) (c2 : P.cellsOf f2.type = d2.sz) (h2 : Opn P f2.type d2 F2) (o3 : f3.offset = d0.sz + d1.sz + d2.sz) (c3 : P.cellsOf f3.type = d3.sz) (h3 : Opn P f3.type d3 F3) (hc : P.cellsOf t = d0.sz + d1.sz + d2.sz + d3.sz) :
    Opn P t (Kd.pair d0 (Kd.pair d1 (Kd.pair d2 d3))) (fun x => F0 x.1 ∧ F1 x.2.1 ∧ F2 x.2.2.1 ∧ F3 x.2.2.2) := by
  intro H enc w base spare held fuel cs x hx
  obtain ⟨xs, n, _, rfl, hl, hlen, hf⟩ := DataW.trod_struct ht hx
  obtain ⟨a0, k0, g0⟩ := h0 H enc w base spare held n _ _ ((hf 0 f0 rfl).trans (List.getElem?_eq_getElem (by rw [hlen]; simp)))
  rw [o0, c0] at k0
  obtain ⟨a1, k1, g1⟩ := h1 H enc w base spare held n _ _ ((hf 1 f1 rfl).trans (List.getElem?_eq_getElem (by rw [hlen]; simp)))
  rw [o1, c1] at k1
  obtain ⟨a2, k2, g2⟩ := h2 H enc w base spare held n _ _ ((hf 2 f2 rfl).trans (List.getElem?_eq_getElem (by rw [hlen]; simp)))
  rw [o2, c2] at k2
  obtain ⟨a3, k3, g3⟩ := h3 H enc w base spare held n _ _ ((hf 3 f3 rfl).trans (List.getElem?_eq_getElem (by rw [hlen]; simp)))
  rw [o3, c3] at k3
  rw [hc] at hl
  have e : cs = (cs.drop (0)).take d0.sz ++ ((cs.drop (d0.sz)).take d1.sz ++ ((cs.drop (d0.sz + d1.sz)).take d2.sz ++ ((cs.drop (d0.sz + d1.sz + d2.sz)).take d3.sz))) := by
    have last : (cs.drop (d0.sz + d1.sz + d2.sz)).take d3.sz = cs.drop (d0.sz + d1.sz + d2.sz) := List.take_of_length_le (by rw [List.length_drop]; omega)
    rw [last]
    rw [show cs.drop (d0.sz + d1.sz + d2.sz) = (cs.drop (d0.sz + d1.sz)).drop d2.sz by rw [List.drop_drop], List.take_append_drop]
    rw [show cs.drop (d0.sz + d1.sz) = (cs.drop (d0.sz)).drop d1.sz by rw [List.drop_drop], List.take_append_drop]
    rw [show cs.drop (d0.sz) = (cs.drop (0)).drop d0.sz by rw [List.drop_drop, Nat.zero_add], List.take_append_drop]
    rw [List.drop_zero]
  refine ⟨(a0, a1, a2, a3), ?_, g0, g1, g2, g3⟩
  rw [e]
  exact ⟨_, _, rfl, k0, ⟨_, _, rfl, k1, ⟨_, _, rfl, k2, k3⟩⟩⟩
theorem Opn.struct6 {α0 : Type} {α1 : Type} {α2 : Type} {α3 : Type} {α4 : Type} {α5 : Type} {t : TypeId} {f0 f1 f2 f3 f4 f5 : Field} {d0 : Kd α0} {d1 : Kd α1} {d2 : Kd α2} {d3 : Kd α3} {d4 : Kd α4} {d5 : Kd α5} {F0 : α0 → Prop} {F1 : α1 → Prop} {F2 : α2 → Prop} {F3 : α3 → Prop} {F4 : α4 → Prop} {F5 : α5 → Prop} (ht : P.underlying t = some (.struct #[f0, f1, f2, f3, f4, f5]))
    (o0 : f0.offset = 0) (c0 : P.cellsOf f0.type = d0.sz) (h0 : Opn P f0.type d0 F0) (o1 : f1.offset = d0.sz) (c1 : P.cellsOf f1.type = d1.sz) (h1 : Opn P f1.type d1 F1) (o2 : f2.offset = d0.sz + d1.sz) (c2 : P.cellsOf f2.type = d2.sz) (h2 : Opn P f2.type d2 F2) (o3 : f3.offset = d0.sz + d1.sz + d2.sz) (c3 : P.cellsOf f3.type = d3.sz) (h3 : Opn P f3.type d3 F3) (o4 : f4.offset = d0.sz + d1.sz + d2.sz + d3.sz) (c4 : P.cellsOf f4.type = d4.sz) (h4 : Opn P f4.type d4 F4) (o5 : f5.offset = d0.sz + d1.sz + d2.sz + d3.sz + d4.sz) (c5 : P.cellsOf f5.type = d5.sz) (h5 : Opn P f5.type d5 F5) (hc : P.cellsOf t = d0.sz + d1.sz + d2.sz + d3.sz + d4.sz + d5.sz) :
    Opn P t (Kd.pair d0 (Kd.pair d1 (Kd.pair d2 (Kd.pair d3 (Kd.pair d4 d5))))) (fun x => F0 x.1 ∧ F1 x.2.1 ∧ F2 x.2.2.1 ∧ F3 x.2.2.2.1 ∧ F4 x.2.2.2.2.1 ∧ F5 x.2.2.2.2.2) := by
  intro H enc w base spare held fuel cs x hx
  obtain ⟨xs, n, _, rfl, hl, hlen, hf⟩ := DataW.trod_struct ht hx
  obtain ⟨a0, k0, g0⟩ := h0 H enc w base spare held n _ _ ((hf 0 f0 rfl).trans (List.getElem?_eq_getElem (by rw [hlen]; simp)))
  rw [o0, c0] at k0
  obtain ⟨a1, k1, g1⟩ := h1 H enc w base spare held n _ _ ((hf 1 f1 rfl).trans (List.getElem?_eq_getElem (by rw [hlen]; simp)))
  rw [o1, c1] at k1
  obtain ⟨a2, k2, g2⟩ := h2 H enc w base spare held n _ _ ((hf 2 f2 rfl).trans (List.getElem?_eq_getElem (by rw [hlen]; simp)))
  rw [o2, c2] at k2
  obtain ⟨a3, k3, g3⟩ := h3 H enc w base spare held n _ _ ((hf 3 f3 rfl).trans (List.getElem?_eq_getElem (by rw [hlen]; simp)))
  rw [o3, c3] at k3
  obtain ⟨a4, k4, g4⟩ := h4 H enc w base spare held n _ _ ((hf 4 f4 rfl).trans (List.getElem?_eq_getElem (by rw [hlen]; simp)))
  rw [o4, c4] at k4
  obtain ⟨a5, k5, g5⟩ := h5 H enc w base spare held n _ _ ((hf 5 f5 rfl).trans (List.getElem?_eq_getElem (by rw [hlen]; simp)))
  rw [o5, c5] at k5
  rw [hc] at hl
  have e : cs = (cs.drop (0)).take d0.sz ++ ((cs.drop (d0.sz)).take d1.sz ++ ((cs.drop (d0.sz + d1.sz)).take d2.sz ++ ((cs.drop (d0.sz + d1.sz + d2.sz)).take d3.sz ++ ((cs.drop (d0.sz + d1.sz + d2.sz + d3.sz)).take d4.sz ++ ((cs.drop (d0.sz + d1.sz + d2.sz + d3.sz + d4.sz)).take d5.sz))))) := by
    have last : (cs.drop (d0.sz + d1.sz + d2.sz + d3.sz + d4.sz)).take d5.sz = cs.drop (d0.sz + d1.sz + d2.sz + d3.sz + d4.sz) := List.take_of_length_le (by rw [List.length_drop]; omega)
    rw [last]
    rw [show cs.drop (d0.sz + d1.sz + d2.sz + d3.sz + d4.sz) = (cs.drop (d0.sz + d1.sz + d2.sz + d3.sz)).drop d4.sz by rw [List.drop_drop], List.take_append_drop]
    rw [show cs.drop (d0.sz + d1.sz + d2.sz + d3.sz) = (cs.drop (d0.sz + d1.sz + d2.sz)).drop d3.sz by rw [List.drop_drop], List.take_append_drop]
    rw [show cs.drop (d0.sz + d1.sz + d2.sz) = (cs.drop (d0.sz + d1.sz)).drop d2.sz by rw [List.drop_drop], List.take_append_drop]
    rw [show cs.drop (d0.sz + d1.sz) = (cs.drop (d0.sz)).drop d1.sz by rw [List.drop_drop], List.take_append_drop]
    rw [show cs.drop (d0.sz) = (cs.drop (0)).drop d0.sz by rw [List.drop_drop, Nat.zero_add], List.take_append_drop]
    rw [List.drop_zero]
  refine ⟨(a0, a1, a2, a3, a4, a5), ?_, g0, g1, g2, g3, g4, g5⟩
  rw [e]
  exact ⟨_, _, rfl, k0, ⟨_, _, rfl, k1, ⟨_, _, rfl, k2, ⟨_, _, rfl, k3, ⟨_, _, rfl, k4, k5⟩⟩⟩⟩⟩
theorem Opn.struct1 {t : TypeId} {f0 : Field} {d0 : Kd α} {F0 : α → Prop} (ht : P.underlying t = some (.struct #[f0])) (o0 : f0.offset = 0) (c0 : P.cellsOf f0.type = d0.sz) (h0 : Opn P f0.type d0 F0) (hc : P.cellsOf t = d0.sz) : Opn P t d0 F0 := by
  intro H enc w base spare held fuel cs x hx
  obtain ⟨xs, n, _, rfl, hl, hlen, hf⟩ := DataW.trod_struct ht hx
  obtain ⟨a0, k0, g0⟩ := h0 H enc w base spare held n _ _ ((hf 0 f0 rfl).trans (List.getElem?_eq_getElem (by rw [hlen]; simp)))
  rw [o0, c0, List.drop_zero, List.take_of_length_le (by omega)] at k0
  exact ⟨a0, k0, g0⟩
theorem Opn.iso {t : TypeId} {d : Kd α} {F : α → Prop} (h : Opn P t d F) (f : β → α) (g : α → β) (hfg : ∀ x, f (g x) = x) : Opn P t (Kd.iso d f) (fun y => F (f y)) := by
  intro H enc w base spare held fuel cs x hx
  obtain ⟨a, k, hF⟩ := h H enc w base spare held fuel cs x hx
  refine ⟨g a, ?_, by show F (f (g a)); rw [hfg]; exact hF⟩
  show d.K w (f (g a)) cs
  rw [hfg]
  exact k
/-- A struct by value, an argument of the law. -/
theorem Opn.agg {H : Type} {enc : TypeId × Value → H} {w : World} {base b0 : Nat} {spare : Nat → Bool} {held : Bool} {r : Reach} {t : TypeId} {fs : Array Field} {d : Kd α} {F : α → Prop} (h : Opn P t d F) (hs : P.underlying t = some (.struct fs)) {v : Value} {D : DataW H} {p : List MemPlace}
    (hv : Value.okWide P w r b0 t v) (ht : DataW.Trod enc P w base spare held t v D p) : ∃ (cs : Array Value) (a : α), v = .agg cs ∧ d.K w a cs.toList ∧ F a := by
  obtain ⟨cs, rfl, _⟩ := okWide_struct hs hv
  obtain ⟨fuel, hf⟩ := ht
  obtain ⟨a, k, g⟩ := h H enc w base spare held fuel _ _ hf
  exact ⟨cs, a, rfl, k, g⟩
/-- A slice, an argument of the law. -/
theorem Opn.row {H : Type} {enc : TypeId × Value → H} {w : World} {base b0 : Nat} {spare : Nat → Bool} {held : Bool} {r : Reach} {t e : TypeId} {d : Kd α} {F : List α → Prop} (h : Opn P t (Kd.slice e d) F) (hs : P.underlying t = some (.slice e)) {v : Value} {D : DataW H} {p : List MemPlace}
    (hv : Value.okWide P w r b0 t v) (ht : DataW.Trod enc P w base spare held t v D p) : ∃ (A : Option Addr) (xs : List α) (c : Nat), v = .slice A xs.length c ∧ d.C w A xs.length xs ∧ xs.length ≤ c ∧ F xs := by
  obtain ⟨A, l, c, rfl⟩ := okWide_slice hs hv
  obtain ⟨fuel, hf⟩ := ht
  obtain ⟨a, ⟨A', c', hcs, hl, hc⟩, g⟩ := h H enc w base spare held fuel _ _ hf
  simp only [Value.cells, List.cons.injEq, and_true] at hcs
  rw [hcs]
  exact ⟨A', a, c', rfl, hc, hl, g⟩
end
end Go.Proofs.Ytfjcfklgnlmjjaa.Opens
