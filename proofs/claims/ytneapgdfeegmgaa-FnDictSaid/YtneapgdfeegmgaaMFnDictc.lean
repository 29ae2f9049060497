-- Made by this session's programs out of the translation and of its own texts.
import Derived.Test.YtneapgdfeegmgaaMFnDictb
namespace Go.Proofs.Ytneapgdfeegmgaa.PI
open Go.RowKit Go.Proofs.YtneapgdfeegmgaaW.PrintWords Go.Proofs.YtneapgdfeegmgaaW.PrintLast Go.Proofs.YtneapgdfeegmgaaW.PrintMore
attribute [local go_sem] max2_int min2_int max_two min_two max_three min_three max_four min_four   -- for this text's walks alone
set_option linter.unusedVariables false
set_option linter.unusedSimpArgs false

/-! ### L_map: a text by hand -/
-- import Derived.Maps.OwnSet
-- import Derived.Maps.RangeWalk
def ptrE (v : Value) : Option (DataW Nat × List MemPlace) :=
  match v with
  | .pointer none => some (.nil, [])
  | .pointer (some ⟨b, 0, none⟩) => some (.held b, [])
  | _ => none
def encP : Option Nat → DataW Nat
  | none => .nil
  | some b => .held b
def ptrV : Option Nat → Value
  | none => .pointer none
  | some b => .pointer (some ⟨b, 0, none⟩)
theorem encP_inj {a b : Option Nat} (h : encP a = encP b) : a = b := by
  cases a <;> cases b <;> simp [encP] at h <;> simp [h]
theorem ptrE_inv {v : Value} {d : DataW Nat} {ps : List MemPlace} {o : Option Nat} (h : ptrE v = some (d, ps)) (hd : d = encP o) : v = ptrV o := by
  unfold ptrE at h
  split at h
  · cases h
    cases o with
    | none => rfl
    | some b => cases hd
  · cases h
    cases o with
    | none => cases hd
    | some b => cases hd; rfl
  · cases h
/-- Block m is a map of n entries: the key kl leads to block f kl. -/
def MapOf (P : Program) (w : World) (k : TypeId) (m : Nat) (f : Lit → Option Nat) (n : Nat) : Prop :=
  ∃ D : DataW Nat, w.ownsMap P k ptrE m n D ∧ Maps.size D = n ∧ ∀ kl, D.atKey kl .nil = encP (f kl) ∧ Maps.has D kl = (f kl).isSome
open Classical in
noncomputable def fput (f : Lit → Option Nat) (kl : Lit) (b : Option Nat) : Lit → Option Nat := fun x => if x = kl then b else f x
theorem fput_same (f : Lit → Option Nat) (kl : Lit) (b : Option Nat) : fput f kl b kl = b := if_pos rfl
theorem fput_other (f : Lit → Option Nat) {kl x : Lit} (b : Option Nat) (h : x ≠ kl) : fput f kl b x = f x := if_neg h
section
variable {P : Program} {w : World} {k e t : TypeId} {m n : Nat} {f : Lit → Option Nat}
theorem MapOf.made (w : World) (P : Program) (k : TypeId) : MapOf P (w.alloc (.map #[] 0)) k w.heap.size (fun _ => none) 0 :=
  ⟨.map [], World.ownsMap_made w P k ptrE, rfl, fun _ => ⟨rfl, rfl⟩⟩
theorem MapOf.kept {w' : World} {row : Option Nat} (h : MapOf P w k m f n) (hg : w.grownBy w' row) (hne : some m ≠ row) : MapOf P w' k m f n := by
  obtain ⟨D, ho, hs, hf⟩ := h
  exact ⟨D, ho.kept hg hne, hs, hf⟩
theorem MapOf.alloc (h : MapOf P w k m f n) (o : Obj) : MapOf P (w.alloc o) k m f n := h.kept (World.grownBy_alloc w o none) (by simp)
theorem MapOf.drew (h : MapOf P w k m f n) : MapOf P w.drew k m f n := h
theorem MapOf.below {w' : World} (h : MapOf P w k m f n) (hb : Below w.heap.size w w') : MapOf P w' k m f n := h.kept (grown_of_below hb none) (by simp)
theorem MapOf.set (h : MapOf P w k m f n) {a : Addr} (ha : m ≠ a.block) (u : Value) : MapOf P (w.setCell a u) k m f n := by
  obtain ⟨D, ho, hs, hf⟩ := h
  exact ⟨D, ho.setCell ha u, hs, hf⟩
theorem MapOf.lt (h : MapOf P w k m f n) : m < w.heap.size := by
  obtain ⟨D, ho, hs, hf⟩ := h
  exact ho.lt
theorem MapOf.look (h : MapOf P w k m f n) (K : Maps.Keyed P k) (ht : P.underlying t = some (.map k e)) (hz : (zeroValue e).run P w = .ok (.pointer none) w) {key : Value} {kl : Lit} (hkey : keyOf P k key = some kl) :
    (Instr.lookup t (.map (some m)) key false).run P w = .ok (ptrV (f kl)) w := by
  obtain ⟨D, ho, hs, hf⟩ := h
  obtain ⟨v, ps, hr, hv⟩ := ho.lookup K ht hz (zd := .nil) (zp := []) rfl hkey
  rw [hr, ptrE_inv hv (hf kl).1]
theorem MapOf.len (h : MapOf P w k m f n) (ht : P.underlying t = some (.map k e)) (ty : TypeId) : (Builtin.len_ #[t] ty #[.map (some m)]).run P w = .ok (.int .i64 n) w := by
  obtain ⟨D, ho, hs, hf⟩ := h
  rw [ho.len ht ty, hs]
theorem mapIsKey {kl : Lit} {key : Value} (K : Maps.Keyed P k) (hkey : keyOf P k key = some kl) : WideAt.IsKeyLit kl := K.key hkey
theorem MapOf.put (h : MapOf P w k m f n) (K : Maps.Keyed P k) (ht : P.underlying t = some (.map k e)) (hn : n < maxLen) {key : Value} {kl : Lit} (hkey : keyOf P k key = some kl) (hnew : f kl = none) (b : Nat) :
    ∃ w', (Instr.mapUpdate t (.map (some m)) key (.pointer (some ⟨b, 0, none⟩))).run P w = .ok () w' ∧ MapOf P w' k m (fput f kl (some b)) (n + 1) ∧ w.mapTurned w' m := by
  obtain ⟨D, ho, hs, hf⟩ := h
  obtain ⟨w', hr, ho', ht'⟩ := ho.store K ht hn (val := .pointer (some ⟨b, 0, none⟩)) (d := .held b) (ps := []) hkey rfl
  have hno : Maps.has D kl = false := by rw [(hf kl).2, hnew]; rfl
  refine ⟨w', hr, ⟨D.put kl (.held b), ho', ?_, fun x => ?_⟩, ht'⟩
  · rw [Maps.size_put (ho.tidy K), hno, hs]; rfl
  · by_cases hx : x = kl
    · subst hx
      rw [fput_same, Maps.atKey_put_same ho.isMap (K.key hkey), Maps.has_put_same ho.isMap (K.key hkey)]
      exact ⟨rfl, rfl⟩
    · rw [fput_other _ _ hx, Maps.atKey_put_other hx, Maps.has_put_other hx]
      exact hf x
theorem MapOf.drop (h : MapOf P w k m f (n + 1)) (K : Maps.Keyed P k) (ht : P.underlying t = some (.map k e)) {key : Value} {kl : Lit} (hkey : keyOf P k key = some kl) (hold : (f kl).isSome = true) (ty : TypeId) :
    ∃ w', (Builtin.delete_ #[t, k] ty #[.map (some m), key]).run P w = .ok (.tuple #[]) w' ∧ MapOf P w' k m (fput f kl none) n ∧ w.mapTurned w' m := by
  obtain ⟨D, ho, hs, hf⟩ := h
  obtain ⟨w', hr, ho', ht'⟩ := ho.drop K ht hkey ty
  have hsz : Maps.size (D.del kl) = n := by
    have := Maps.size_del (k := kl) (ho.tidy K)
    rw [(hf kl).2, hold] at this
    simp at this
    omega
  have ho2 : w'.ownsMap P k ptrE m n (D.del kl) := by
    obtain ⟨es, clock, hb, F, hs', hD⟩ := ho'
    refine ⟨es, clock, hb, F, ?_, hD⟩
    rw [hD] at hsz
    have e1 : Maps.size (DataW.map ((es.toList.map (WideElems.rg P k ptrE)).foldr DataW.insert [])) = es.size := by simp [Maps.size, length_sorted]
    omega
  refine ⟨w', hr, ⟨D.del kl, ho2, hsz, fun x => ?_⟩, ht'⟩
  by_cases hx : x = kl
  · subst hx
    rw [fput_same, Maps.atKey_del_same, Maps.has_del_same]
    exact ⟨rfl, rfl⟩
  · rw [fput_other _ _ hx, Maps.atKey_del_other hx, Maps.has_del_other hx]
    exact hf x
end

/-! ### L_book: a text by hand -/
def kS (t : S51) : Lit := .string t.f1.data.toList
def kI (t : S51) : Lit := .int .i64 t.f0
open Classical in
noncomputable def fE (key : S51 → Lit) (E : List (Nat × S51)) : Lit → Option Nat := fun kl => (E.find? (fun p => decide (key p.2 = kl))).map (·.1)
theorem fE_nil (key : S51 → Lit) : fE key [] = fun _ => none := rfl
theorem fE_none {key : S51 → Lit} {E : List (Nat × S51)} {kl : Lit} : fE key E kl = none ↔ ∀ p ∈ E, key p.2 ≠ kl := by
  unfold fE
  rw [Option.map_eq_none_iff, List.find?_eq_none]
  simp
theorem fE_some {key : S51 → Lit} {E : List (Nat × S51)} {kl : Lit} {b : Nat} (h : fE key E kl = some b) : ∃ t, (b, t) ∈ E ∧ key t = kl := by
  unfold fE at h
  obtain ⟨p, hp, rfl⟩ := Option.map_eq_some_iff.1 h
  exact ⟨p.2, List.mem_of_find?_eq_some hp, by simpa using List.find?_some hp⟩
open Classical in
theorem fE_snoc {key : S51 → Lit} {E : List (Nat × S51)} (b : Nat) (t : S51) (h : fE key E (key t) = none) : fput (fE key E) (key t) (some b) = fE key (E ++ [(b, t)]) := by
  funext x
  by_cases hx : x = key t
  · subst hx
    rw [fput_same]
    unfold fE at h ⊢
    rw [Option.map_eq_none_iff] at h
    rw [List.find?_append, h]
    simp
  · rw [fput_other _ _ hx]
    unfold fE
    rw [List.find?_append]
    have e : List.find? (fun p => decide (key p.2 = x)) [(b, t)] = none := by
      rw [List.find?_eq_none]; intro p hp; rw [List.mem_singleton.1 hp]; simpa using fun he => hx he.symm
    rw [e, Option.or_none]
def Book (w : World) (lo bk m1 m2 : Nat) (next : Int) (E : List (Nat × S51)) : Prop :=
  lo ≤ bk ∧ lo ≤ m1 ∧ lo ≤ m2 ∧ m1 ≠ m2 ∧ (E.map (·.1)).Nodup ∧ w.heap[bk]? = some (.cells #[.int .i64 next, .map (some m1), .map (some m2)] 61 (0, 0)) ∧
    (∀ p ∈ E, lo ≤ p.1 ∧ w.heap[p.1]? = some (.cells #[.int .i64 p.2.f0, .string p.2.f1, .int .i64 p.2.f2] 51 (0, 0))) ∧
    MapOf Try.prog w 9 m1 (fE kS E) E.length ∧ MapOf Try.prog w 2 m2 (fE kI E) E.length
theorem lawS : Maps.Keyed Try.prog 9 := Maps.string_keyed Try.underlying9
theorem lawI : Maps.Keyed Try.prog 2 := Maps.int_keyed Try.underlying2
theorem zeroTerm (w : World) : (zeroValue 57).run Try.prog w = .ok (.pointer none) w := by kernel_rfl
theorem keyS (s : ByteArray) (h : s.size ≤ maxLen) : keyOf Try.prog 9 (.string s) = some (.string s.data.toList) := WideMaps.keyOf_string_mk Try.underlying9 h
theorem wfI (a : Int) (h0 : -9223372036854775808 ≤ a) (h1 : a ≤ 9223372036854775807) : (Lit.int .i64 a).wf = true := WalkArith.wf_i64 (by omega)
theorem keyI (a : Int) (h0 : -9223372036854775808 ≤ a) (h1 : a ≤ 9223372036854775807) : keyOf Try.prog 2 (.int .i64 a) = some (.int .i64 a) := Maps.keyOf_int_mk Try.underlying2 (wfI a h0 h1)
theorem noId_iff (l : List S51) (id : Int) : ∀ (e j : Nat), noId l id j e = true ↔ ∀ x, j ≤ x → x < j + e → (gT l x).f0 ≠ id := by
  intro e
  induction e with
  | zero => intro j; simp [noId]; intro x h1 h2; omega
  | succ e ih =>
    intro j
    unfold noId
    by_cases c : (gT l j).f0 = id
    · rw [if_pos c]
      simp only [Bool.false_eq_true, false_iff]
      exact fun h => h j (Nat.le_refl _) (by omega) c
    · rw [if_neg c, ih]
      constructor
      · intro h x h1 h2
        rcases Nat.lt_or_ge j x with h3 | h3
        · exact h x h3 (by omega)
        · obtain rfl : x = j := by omega
          exact c
      · intro h x h1 h2
        exact h x (by omega) (by omega)
theorem bless_eq : ∀ (x y : List UInt8), Op.bytesLess x y = decide (x < y)
  | [], [] => by simp [Op.bytesLess]
  | _ :: _, [] => by simp [Op.bytesLess]
  | [], _ :: _ => by simp [Op.bytesLess]
  | a :: x, b :: y => by
    rw [Op.bytesLess, bless_eq x y]
    simp only [List.cons_lt_cons_iff]
    by_cases h1 : a < b <;> by_cases h2 : a = b <;> by_cases h3 : x < y <;> simp [h1, h2, h3]
theorem text_asc (l : List S51) : ∀ (d i j : Nat), (∀ x, x ≤ i → tOrd l x = true) → j + (d + 1) = i → (gT l j).f1.toList < (gT l i).f1.toList := by
  intro d
  induction d with
  | zero =>
    intro i j h hj
    have := h i (Nat.le_refl _)
    unfold tOrd at this
    rw [decide_eq_false (by omega), Bool.false_or, bless_eq] at this
    rw [show j = i - 1 by omega]
    exact of_decide_eq_true this
  | succ d ih =>
    intro i j h hj
    have h1 := ih (i - 1) j (fun x hx => h x (by omega)) (by omega)
    have := h i (Nat.le_refl _)
    unfold tOrd at this
    rw [decide_eq_false (by omega), Bool.false_or, bless_eq] at this
    exact List.lt_trans h1 (of_decide_eq_true this)
theorem mem_take {l : List S51} {i : Nat} {t : S51} (h : t ∈ l.take i) : ∃ j, j < i ∧ j < l.length ∧ t = gT l j := by
  obtain ⟨j, hj, rfl⟩ := List.getElem_of_mem h
  have h2 : j < l.length := by simp at hj; omega
  exact ⟨j, by simp at hj; omega, h2, by rw [gT_at l j h2, List.getElem_take]⟩
theorem fresh_text {l : List S51} {i : Nat} {E : List (Nat × S51)} (hE : E.map (·.2) = l.take i) (h : ∀ x, x ≤ i → tOrd l x = true) : fE kS E (kS (gT l i)) = none := by
  rw [fE_none]
  intro p hp he
  have hm : p.2 ∈ l.take i := by rw [← hE]; exact List.mem_map_of_mem hp
  obtain ⟨j, hj, _, e⟩ := mem_take hm
  have hl := text_asc l (i - j - 1) i j h (by omega)
  rw [e] at he
  have e2 : (gT l j).f1.toList = (gT l i).f1.toList := by
    rw [ByteArray.toList_eq, ByteArray.toList_eq]
    exact Lit.string.inj he
  rw [e2] at hl
  exact List.lt_irrefl _ hl
theorem fresh_id {l : List S51} {i : Nat} {E : List (Nat × S51)} (hE : E.map (·.2) = l.take i) (hi : i ≤ l.length) : (fE kI E (kI (gT l i)) = none) ↔ noId l (gT l i).f0 0 i = true := by
  rw [fE_none, noId_iff]
  constructor
  · intro h x _ hx he
    have hm : gT l x ∈ E.map (·.2) := by
      rw [hE, gT_at l x (by omega)]
      exact List.mem_take_iff_getElem.2 ⟨x, by omega, rfl⟩
    obtain ⟨p, hp, hp2⟩ := List.mem_map.1 hm
    exact h p hp (by rw [hp2]; unfold kI; rw [he])
  · intro h p hp he
    have hm : p.2 ∈ l.take i := by rw [← hE]; exact List.mem_map_of_mem hp
    obtain ⟨j, hj, _, e⟩ := mem_take hm
    rw [e] at he
    exact h j (Nat.zero_le _) (by omega) (by unfold kI at he; injection he)

/-! ### L_book2: a text by hand -/
-- import Derived.WideKeyEntry
theorem entry_storeK {H : Type} {P : Program} {w : World} {t k e : TypeId} {R : Value → Option (DataW H × List MemPlace)} {b : Nat} {es : Array MapEntry} {clock : Nat} (K : Maps.Keyed P k) (ht : P.underlying t = some (.map k e)) {z : Value} (hz : ∀ u : World, (zeroValue e).run P u = .ok z u) (hb : w.heap[b]? = some (.map es clock)) (F : WideElems.Fit P k R es clock)
    {key : Value} {kl : Lit} (hkey : keyOf P k key = some kl) (hnew : ∀ x ∈ es.toList, x.key ≠ key) (val : Value) :
    ∃ es' clock', (Instr.mapEntry t (.map (some b)) key).run P w = .ok (.tuple #[z, goInt clock]) (ChangeMaps.setBlock w b (.map (es.push ⟨key, z, clock⟩) (clock + 1))) ∧
      (∀ w2 : World, w2.heap[b]? = some (.map (es.push ⟨key, z, clock⟩) (clock + 1)) → (Instr.entryStore t (.map (some b)) (goInt clock) val).run P w2 = .ok () (ChangeMaps.setBlock w2 b (.map es' clock'))) ∧
      (Instr.mapUpdate t (.map (some b)) key val).run P w = .ok () (ChangeMaps.setBlock w b (.map es' clock')) := by
  obtain ⟨s1, s2, _⟩ := F.stamped
  rcases K.find w hkey es.toList F.keys with ⟨h1, h2⟩ | ⟨j, e0, h1, h2, h3⟩
  · refine ⟨es.push ⟨key, val, clock⟩, clock + 1, ?_, fun w2 hw2 => ?_, ?_⟩
    · simp [Instr.mapEntry, run_underlying ht, MapKept.run_getObj_map hb, K.check w false hkey, h1, hz, MapKept.run_setObj_map _ hb, Result.andThen, ChangeMaps.setBlock]
    · have hidx : (es.push ⟨key, z, clock⟩).findIdx? (fun e => ((e.born : Nat) : Int) == ((clock : Nat) : Int)) = some es.size := by
        rw [WideElems.findIdx_arr]
        have := WideElems.findIdx_born (l := (es.push ⟨key, z, clock⟩).toList) (j := es.size) (e0 := ⟨key, z, clock⟩) (by
          simp only [Array.toList_push, List.map_append, List.map_cons, List.map_nil]
          refine List.nodup_append.2 ⟨s2, by simp, fun a ha c hc e1 => ?_⟩
          simp only [List.mem_singleton] at hc
          obtain ⟨x, hx, rfl⟩ := List.mem_map.1 ha
          have := s1 x hx
          omega) (by simp)
        exact this
      have hmod : (es.push ⟨key, z, clock⟩).modify es.size (fun e => { e with val := val }) = es.push ⟨key, val, clock⟩ := by
        apply Array.ext'
        rw [Array.toList_modify, Array.toList_push, Array.toList_push, ← Array.length_toList, WideElems.modify_last]
      simp [Instr.entryStore, MapKept.run_getObj_map hw2, asInt, asIntOf, goInt, hidx, hmod, MapKept.run_setObj_map _ hw2, Result.andThen, ChangeMaps.setBlock]
    · simp [Instr.mapUpdate, run_underlying ht, MapKept.run_getObj_map hb, K.check w false hkey, h1, MapKept.run_setObj_map _ hb, Result.andThen, ChangeMaps.setBlock]
  · exact absurd h3 (hnew e0 (List.mem_of_getElem? h2))
theorem MapOf.entry {P : Program} {w : World} {k e t : TypeId} {m n : Nat} {f : Lit → Option Nat} (h : MapOf P w k m f n) (K : Maps.Keyed P k) (ht : P.underlying t = some (.map k e)) (hz : ∀ u : World, (zeroValue e).run P u = .ok (.pointer none) u) (hn : n < maxLen) {key : Value} {kl : Lit} (hkey : keyOf P k key = some kl) (hnew : f kl = none) (b : Nat) :
    ∃ (st : Nat) (w1 w2 : World), (Instr.mapEntry t (.map (some m)) key).run P w = .ok (.tuple #[.pointer none, .int .i64 st]) w1 ∧ (Instr.entryStore t (.map (some m)) (.int .i64 st) (.pointer (some ⟨b, 0, none⟩))).run P w1 = .ok () w2 ∧
      MapOf P w2 k m (fput f kl (some b)) (n + 1) ∧ w.mapTurned w2 m ∧ w.mapTurned w1 m := by
  obtain ⟨w', hr, hm, ht'⟩ := h.put K ht hn hkey hnew b
  obtain ⟨D, ho, hs, hf⟩ := h
  have hno : Maps.has D kl = false := by rw [(hf kl).2, hnew]; rfl
  obtain ⟨es, clock, hb, F, hsz, rfl⟩ := ho
  have hnk : ∀ x ∈ es.toList, x.key ≠ key := by
    intro x hx he
    obtain ⟨y, hy⟩ := F.reads x hx
    have e1 := WideElems.rd_key hy
    have e2 : (WideElems.rg P k ptrE x).1 = kl := by
      rw [WideElems.rg_of hy]
      have : some y.1 = some kl := by rw [← e1, he, hkey]
      exact Option.some.inj this
    have h3 : Maps.has (DataW.map ((es.toList.map (WideElems.rg P k ptrE)).foldr DataW.insert [])) kl = true := by
      refine List.any_eq_true.2 ⟨WideElems.rg P k ptrE x, mem_sorted.2 (List.mem_map_of_mem hx), ?_⟩
      rw [e2]
      exact WideAt.sameKey_self (K.key hkey)
    rw [h3] at hno
    cases hno
  obtain ⟨es', clock', h1, h2, h3⟩ := entry_storeK K ht hz hb F hkey hnk (.pointer (some ⟨b, 0, none⟩))
  rw [h3] at hr
  have e3 := (Result.ok.inj hr).2
  have e4 := h2 (ChangeMaps.setBlock w m (.map (es.push ⟨key, .pointer none, clock⟩) (clock + 1))) (ChangeMaps.heap_setBlock_same hb _)
  rw [show ChangeMaps.setBlock (ChangeMaps.setBlock w m (.map (es.push ⟨key, .pointer none, clock⟩) (clock + 1))) m (.map es' clock') = ChangeMaps.setBlock w m (.map es' clock') by simp [ChangeMaps.setBlock]] at e4
  exact ⟨clock, _, _, h1, e4, by rw [e3]; exact hm, by rw [e3]; exact ht', ⟨es, clock, _, _, hb, rfl⟩⟩
theorem MapOf.isMapObj {P : Program} {w : World} {k : TypeId} {m n : Nat} {f : Lit → Option Nat} (h : MapOf P w k m f n) : ∃ es clock, w.heap[m]? = some (.map es clock) := by
  obtain ⟨D, ⟨es, clock, hb, _⟩, _⟩ := h
  exact ⟨es, clock, hb⟩
theorem Book.below {w w' : World} {lo bk m1 m2 : Nat} {next : Int} {E : List (Nat × S51)} (h : Book w lo bk m1 m2 next E) (hb : Below w.heap.size w w') : Book w' lo bk m1 m2 next E := by
  obtain ⟨h1, h2, h3, h4, h5, h6, h7, h8, h9⟩ := h
  exact ⟨h1, h2, h3, h4, h5, blk_below h6 hb, fun p hp => ⟨(h7 p hp).1, blk_below (h7 p hp).2 hb⟩, h8.below hb, h9.below hb⟩
theorem Book.alloc {w : World} {lo bk m1 m2 : Nat} {next : Int} {E : List (Nat × S51)} (h : Book w lo bk m1 m2 next E) (o : Obj) : Book (w.alloc o) lo bk m1 m2 next E := h.below (below_alloc (Below.refl _ _) o)
/-- Behind the two stores: one term more. -/
theorem Book.push {w w2 w4 : World} {lo bk m1 m2 g : Nat} {next : Int} {E : List (Nat × S51)} {t : S51} (h : Book w lo bk m1 m2 next E) (hg : lo ≤ g) (hgE : ∀ p ∈ E, p.1 ≠ g) (hb : w.heap[g]? = some (.cells #[.int .i64 t.f0, .string t.f1, .int .i64 t.f2] 51 (0, 0)))
    (hS : fE kS E (kS t) = none) (hI : fE kI E (kI t) = none) (t1 : w.mapTurned w2 m1) (o1 : MapOf Try.prog w2 9 m1 (fput (fE kS E) (kS t) (some g)) (E.length + 1)) (t2 : w2.mapTurned w4 m2) (o2 : MapOf Try.prog w4 2 m2 (fput (fE kI E) (kI t) (some g)) (E.length + 1)) :
    Book w4 lo bk m1 m2 next (E ++ [(g, t)]) := by
  obtain ⟨h1, h2, h3, h4, h5, h6, h7, h8, h9⟩ := h
  obtain ⟨es1, cl1, hm1⟩ := h8.isMapObj
  obtain ⟨es2, cl2, hm2⟩ := h9.isMapObj
  have keep : ∀ (b : Nat) (cs : Array Value) (ty : TypeId), w.heap[b]? = some (.cells cs ty (0, 0)) → w4.heap[b]? = some (.cells cs ty (0, 0)) := by
    intro b cs ty hc
    have n1 : b ≠ m1 := fun he => by rw [he, hm1] at hc; cases hc
    have n2 : b ≠ m2 := fun he => by rw [he, hm2] at hc; cases hc
    have hl := blk_lt hc
    have e1 := t1.grown.block b hl (by simp [n1])
    have e2 := t2.grown.block b (Nat.lt_of_lt_of_le hl t1.grown.size) (by simp [n2])
    exact (e2.trans e1).trans hc
  refine ⟨h1, h2, h3, h4, ?_, keep _ _ _ h6, ?_, ?_, ?_⟩
  · rw [List.map_append, List.nodup_append]
    refine ⟨h5, by simp, fun a ha b hb' => ?_⟩
    obtain ⟨p, hp, rfl⟩ := List.mem_map.1 ha
    rw [List.mem_singleton.1 hb']
    exact hgE p hp
  · intro p hp
    rcases List.mem_append.1 hp with hp | hp
    · exact ⟨(h7 p hp).1, keep _ _ _ (h7 p hp).2⟩
    · rw [List.mem_singleton.1 hp]
      exact ⟨hg, keep _ _ _ hb⟩
  · rw [← fE_snoc g t hS, List.length_append]
    exact o1.kept t2.grown (by simp [h4])
  · rw [← fE_snoc g t hI, List.length_append]
    exact o2

/-! ### L_look: a text by hand -/
theorem MapOf.look_any {P : Program} {w : World} {k e t : TypeId} {m n : Nat} {f : Lit → Option Nat} {d : TypeDesc} (h : MapOf P w k m f n) (K : Maps.Keyed P k) (hk : P.underlying k = some d) (ht : P.underlying t = some (.map k e)) (hz : (zeroValue e).run P w = .ok (.pointer none) w) {key : Value} (hd : MapKept.IsKey d key) (hall : ∀ v l, keyOf P k v = some l → MapKept.IsKey d v) :
    (Instr.lookup t (.map (some m)) key false).run P w = .ok (ptrV ((keyOf P k key).bind f)) w := by
  cases hq : keyOf P k key with
  | some kl => exact h.look K ht hz hq
  | none =>
    obtain ⟨D, ⟨es, clock, hb, F, hs', hD⟩, hs, hf⟩ := h
    have hks : ∀ x ∈ es.toList, MapKept.IsKey d x.key := fun x hx => by
      obtain ⟨l, hl⟩ := F.keys x hx
      exact hall _ _ hl
    rcases MapKept.findNow_spec hd es.toList 0 hks with ⟨h1, h2⟩ | ⟨j, e0, h1, h2, h3⟩
    · have hfk := MapKept.run_findKey (P := P) (w := w) hk h1
      simp [Instr.lookup, run_underlying ht, MapKept.run_getObj_map hb, MapKept.run_checkKey hk hd, hfk, hz, Result.andThen, ptrV]
    · obtain ⟨l, hl⟩ := F.keys e0 (List.mem_of_getElem? h2)
      rw [h3, hq] at hl
      cases hl
def tById (l : List S51) (id : Int) : Option S51 := l.find? (fun t => decide (t.f0 = id))
def tByText (l : List S51) (s : ByteArray) : Option S51 := l.find? (fun t => decide (t.f1.toList = s.toList))
theorem vFrom_at (next : Int) (l : List S51) : ∀ (d i j : Nat), vFrom next l i d = true → i ≤ j → j < i + d → tPre next l j = true ∧ noId l (gT l j).f0 0 j = true := by
  intro d
  induction d with
  | zero => intro i j _ h1 h2; omega
  | succ d ih =>
    intro i j h h1 h2
    unfold vFrom at h
    simp only [Bool.and_eq_true] at h
    rcases Nat.lt_or_ge i j with h3 | h3
    · exact ih (i + 1) j h.2 (by omega) (by omega)
    · obtain rfl : j = i := by omega
      exact h.1
theorem vT_mem {next : Int} {l : List S51} (h : vT next l = true) {t : S51} (ht : t ∈ l) : 1 ≤ (t.f1.size : Int) ∧ (t.f1.size : Int) ≤ 30 ∧ 1 ≤ t.f0 ∧ t.f0 < next ∧ 1 ≤ t.f2 ∧ t.f2 ≤ 2000000000 := by
  obtain ⟨j, hj, rfl⟩ := List.getElem_of_mem ht
  have h1 := (tPre_cases _ _ _).1 (vFrom_at next l l.length 0 j (vT_facts h).2.2.2 (Nat.zero_le _) (by omega)).1
  rw [gT_at l j hj] at h1
  exact ⟨h1.1, h1.2.1, h1.2.2.1, h1.2.2.2.1, h1.2.2.2.2.1, h1.2.2.2.2.2.1⟩
open Classical in
theorem findE {E : List (Nat × S51)} {l : List S51} (hE : E.map (·.2) = l) (key : S51 → Lit) (kl : Lit) (p : S51 → Bool) (hp : ∀ t, p t = true ↔ key t = kl) :
    (fE key E kl = none ∧ l.find? p = none) ∨ ∃ b t, fE key E kl = some b ∧ l.find? p = some t ∧ (b, t) ∈ E := by
  subst hE
  unfold fE
  have e : List.find? p (List.map (·.2) E) = (E.find? (fun q => @decide (key q.2 = kl) (Classical.propDecidable _))).map (·.2) := by
    rw [List.find?_map]
    congr 2
    funext q

    show p q.2 = decide (key q.2 = kl)
    rw [Bool.eq_iff_iff, hp, decide_eq_true_iff]
  rw [e]
  cases hq : E.find? (fun q => @decide (key q.2 = kl) (Classical.propDecidable _)) with
  | none => exact Or.inl ⟨rfl, rfl⟩
  | some q => exact Or.inr ⟨q.1, q.2, rfl, rfl, List.mem_of_find?_eq_some hq⟩
theorem Book.lookI {w : World} {lo bk m1 m2 : Nat} {next : Int} {E : List (Nat × S51)} {l : List S51} (h : Book w lo bk m1 m2 next E) (hE : E.map (·.2) = l) (hl : ∀ t ∈ l, 1 ≤ t.f0 ∧ t.f0 ≤ 2000000000) (id : Int) :
    ∃ o, (Instr.lookup 59 (.map (some m2)) (.int .i64 id) false).run Try.prog w = .ok (ptrV o) w ∧ ((o = none ∧ tById l id = none) ∨ ∃ b t, o = some b ∧ tById l id = some t ∧ (b, t) ∈ E) := by
  refine ⟨_, MapOf.look_any h.2.2.2.2.2.2.2.2 lawI Try.underlying2 Try.underlying59 (zeroTerm w) (key := .int .i64 id) rfl (fun v l hv => ?_), ?_⟩
  · obtain ⟨x, rfl, _⟩ := Maps.keyOf_int_inv Try.underlying2 hv
    exact rfl
  · by_cases hw : (Lit.int .i64 id).wf = true
    · rw [Maps.keyOf_int_mk Try.underlying2 hw, Option.bind_some]
      rcases findE hE kI (.int .i64 id) (fun t => decide (t.f0 = id)) (fun t => by simp [kI]) with h | ⟨b, t, h1, h2, h3⟩
      · exact Or.inl h
      · exact Or.inr ⟨b, t, h1, h2, h3⟩
    · refine Or.inl ⟨?_, ?_⟩
      · cases hq : keyOf Try.prog 2 (.int .i64 id) with
        | none => rfl
        | some kl =>
          obtain ⟨x, hx, _, hwx⟩ := Maps.keyOf_int_inv Try.underlying2 hq
          cases hx
          exact absurd hwx hw
      · unfold tById
        rw [List.find?_eq_none]
        intro t ht he
        have h1 := hl t ht
        have h2 : t.f0 = id := by simpa using he
        exact hw (wfI id (by omega) (by omega))
theorem Book.lookS {w : World} {lo bk m1 m2 : Nat} {next : Int} {E : List (Nat × S51)} {l : List S51} (h : Book w lo bk m1 m2 next E) (hE : E.map (·.2) = l) (hl : ∀ t ∈ l, t.f1.size ≤ 30) (s : ByteArray) :
    ∃ o, (Instr.lookup 58 (.map (some m1)) (.string s) false).run Try.prog w = .ok (ptrV o) w ∧ ((o = none ∧ tByText l s = none) ∨ ∃ b t, o = some b ∧ tByText l s = some t ∧ (b, t) ∈ E) := by
  refine ⟨_, MapOf.look_any h.2.2.2.2.2.2.2.1 lawS Try.underlying9 Try.underlying58 (zeroTerm w) (key := .string s) trivial (fun v l hv => ?_), ?_⟩
  · obtain ⟨x, rfl, _⟩ := WideMaps.string_of_keyOf Try.underlying9 hv
    exact trivial
  · by_cases hw : s.size ≤ maxLen
    · rw [keyS s hw, Option.bind_some]
      rcases findE hE kS (.string s.data.toList) (fun t => decide (t.f1.toList = s.toList)) (fun t => by simp [kS, ByteArray.toList_eq]) with h | ⟨b, t, h1, h2, h3⟩
      · exact Or.inl h
      · exact Or.inr ⟨b, t, h1, h2, h3⟩
    · refine Or.inl ⟨?_, ?_⟩
      · cases hq : keyOf Try.prog 9 (.string s) with
        | none => rfl
        | some kl =>
          obtain ⟨x, hx, _, hwx⟩ := WideMaps.string_of_keyOf Try.underlying9 hq
          cases hx
          exact absurd hwx hw
      · unfold tByText
        rw [List.find?_eq_none]
        intro t ht he
        have h1 := hl t ht
        have h2 : t.f1.toList = s.toList := by simpa using he
        have h3 := congrArg List.length h2
        rw [ByteArray.toList_eq, ByteArray.toList_eq, data_length, data_length] at h3
        exact hw (by unfold maxLen; omega)

/-! ### L_book3: a text by hand -/
def zE : Nat × S51 := (0, z51)
open Classical in
theorem fE_map (key : S51 → Lit) (E : List (Nat × S51)) (kl : Lit) : fE key E kl = ((E.map (fun p => (key p.2, p.1))).find? (fun q => decide (q.1 = kl))).map (·.2) := by
  unfold fE
  rw [List.find?_map, Option.map_map]
  rfl
theorem fE_congr {key : S51 → Lit} {E E' : List (Nat × S51)} (h : E.map (fun p => (key p.2, p.1)) = E'.map (fun p => (key p.2, p.1))) : fE key E = fE key E' := by
  funext kl
  rw [fE_map, fE_map, h]
theorem set_same {α β : Type} (f : α → β) (E : List α) (i : Nat) (q : α) (hi : i < E.length) (h : f q = f E[i]) : (E.set i q).map f = E.map f := by
  rw [List.map_set, h]
  apply List.ext_getElem?
  intro j
  rw [List.getElem?_set]
  by_cases c : i = j
  · subst c
    rw [if_pos rfl, if_pos (by simpa using hi), List.getElem?_map, List.getElem?_eq_getElem hi]
    rfl
  · rw [if_neg c]
theorem Book.setRefs {w : World} {lo bk m1 m2 : Nat} {next : Int} {E : List (Nat × S51)} (h : Book w lo bk m1 m2 next E) (i : Nat) (hi : i < E.length) (x : Int) :
    Book (w.setCell ⟨(E[i]).1, 2, none⟩ (.int .i64 x)) lo bk m1 m2 next (E.set i ((E[i]).1, ⟨(E[i]).2.f0, (E[i]).2.f1, x⟩)) := by
  obtain ⟨h1, h2, h3, h4, h5, h6, h7, h8, h9⟩ := h
  have hb := (h7 E[i] (List.getElem_mem hi)).2
  obtain ⟨es1, cl1, hm1⟩ := MapOf.isMapObj h8
  obtain ⟨es2, cl2, hm2⟩ := MapOf.isMapObj h9
  have n1 : m1 ≠ (E[i]).1 := fun he => by rw [← he, hm1] at hb; cases hb
  have n2 : m2 ≠ (E[i]).1 := fun he => by rw [← he, hm2] at hb; cases hb
  have n3 : bk ≠ (E[i]).1 := fun he => by rw [← he, h6] at hb; cases hb
  have eb : (E.set i ((E[i]).1, (⟨(E[i]).2.f0, (E[i]).2.f1, x⟩ : S51))).map (·.1) = E.map (·.1) := set_same _ _ _ _ hi rfl
  refine ⟨h1, h2, h3, h4, by rw [eb]; exact h5, blk_far h6 n3 _, ?_, ?_, ?_⟩
  · intro p hp
    obtain ⟨j, hj, rfl⟩ := List.getElem_of_mem hp
    rw [List.getElem_set]
    by_cases c : i = j
    · subst c
      rw [if_pos rfl]
      exact ⟨(h7 E[i] (List.getElem_mem hi)).1, blk_put hb 2 _ rfl⟩
    · rw [if_neg c]
      have hj' : j < E.length := by simpa using hj
      have hne : (E[j]).1 ≠ (E[i]).1 := by
        intro he
        have := List.pairwise_iff_getElem.1 h5
        rcases Nat.lt_or_ge i j with hlt | hge
        · exact this i j (by simpa using hi) (by simpa using hj') hlt (by simpa using he.symm)
        · exact this j i (by simpa using hj') (by simpa using hi) (by omega) (by simpa using he)
      exact ⟨(h7 E[j] (List.getElem_mem hj')).1, blk_far (h7 E[j] (List.getElem_mem hj')).2 hne _⟩
  · rw [List.length_set, fE_congr (set_same (fun p => (kS p.2, p.1)) E i ((E[i]).1, (⟨(E[i]).2.f0, (E[i]).2.f1, x⟩ : S51)) hi rfl)]
    exact h8.set n1 _
  · rw [List.length_set, fE_congr (set_same (fun p => (kI p.2, p.1)) E i ((E[i]).1, (⟨(E[i]).2.f0, (E[i]).2.f1, x⟩ : S51)) hi rfl)]
    exact h9.set n2 _
open Classical in
theorem fE_erase {key : S51 → Lit} {E : List (Nat × S51)} (i : Nat) (hi : i < E.length) (hn : ∀ j (hj : j < E.length), key (E[j]).2 = key (E[i]).2 → j = i) : fput (fE key E) (key (E[i]).2) none = fE key (E.eraseIdx i) := by
  funext kl
  by_cases hk : kl = key (E[i]).2
  · subst hk
    rw [fput_same]
    symm
    rw [fE_none]
    intro p hp he
    obtain ⟨j, hj, rfl⟩ := List.getElem_of_mem hp
    rw [List.getElem_eraseIdx] at he
    split at he
    · have := hn j (by omega) he; omega
    · have := hn (j + 1) (by simp [List.length_eraseIdx] at hj; split at hj <;> omega) he; omega
  · rw [fput_other _ _ hk]
    unfold fE
    congr 1
    have e1 : E = E.take i ++ E[i] :: E.drop (i + 1) := by rw [← List.drop_eq_getElem_cons hi, List.take_append_drop]
    have e2 : E.eraseIdx i = E.take i ++ E.drop (i + 1) := List.eraseIdx_eq_take_drop_succ E i
    rw [e2]
    conv => lhs; rw [e1]
    rw [List.find?_append, List.find?_append, List.find?_cons_of_neg (by simpa using fun he => hk he.symm)]
theorem Book.erase {w w2 w4 : World} {lo bk m1 m2 : Nat} {next : Int} {E : List (Nat × S51)} (h : Book w lo bk m1 m2 next E) (i : Nat) (hi : i < E.length) (hS : ∀ j (hj : j < E.length), kS (E[j]).2 = kS (E[i]).2 → j = i) (hI : ∀ j (hj : j < E.length), kI (E[j]).2 = kI (E[i]).2 → j = i)
    (t2 : w.grownBy w2 (some m2)) (o2 : MapOf Try.prog w2 2 m2 (fput (fE kI E) (kI (E[i]).2) none) (E.length - 1)) (t1 : w2.grownBy w4 (some m1)) (o1 : MapOf Try.prog w4 9 m1 (fput (fE kS E) (kS (E[i]).2) none) (E.length - 1)) :
    Book w4 lo bk m1 m2 next (E.eraseIdx i) := by
  obtain ⟨h1, h2, h3, h4, h5, h6, h7, h8, h9⟩ := h
  obtain ⟨es1, cl1, hm1⟩ := MapOf.isMapObj h8
  obtain ⟨es2, cl2, hm2⟩ := MapOf.isMapObj h9
  have keep : ∀ (b : Nat) (cs : Array Value) (ty : TypeId), w.heap[b]? = some (.cells cs ty (0, 0)) → w4.heap[b]? = some (.cells cs ty (0, 0)) := by
    intro b cs ty hc
    have n1 : b ≠ m1 := fun he => by rw [he, hm1] at hc; cases hc
    have n2 : b ≠ m2 := fun he => by rw [he, hm2] at hc; cases hc
    have hl := blk_lt hc
    have e1 := t2.block b hl (by simp [n2])
    have e2 := t1.block b (Nat.lt_of_lt_of_le hl t2.size) (by simp [n1])
    exact (e2.trans e1).trans hc
  have hlen : (E.eraseIdx i).length = E.length - 1 := by rw [List.length_eraseIdx, if_pos hi]
  refine ⟨h1, h2, h3, h4, ?_, keep _ _ _ h6, ?_, ?_, ?_⟩
  · exact h5.sublist ((List.eraseIdx_sublist E i).map _)
  · intro p hp
    have hp' := List.mem_of_mem_eraseIdx hp
    exact ⟨(h7 p hp').1, keep _ _ _ (h7 p hp').2⟩
  · rw [hlen, ← fE_erase i hi hS]
    exact o1
  · rw [hlen, ← fE_erase i hi hI]
    exact o2.kept t1 (by simp [Ne.symm h4])
theorem text_inj {next : Int} {l : List S51} (h : vT next l = true) {i j : Nat} (hi : i < l.length) (hj : j < l.length) (he : (gT l i).f1.toList = (gT l j).f1.toList) : i = j := by
  have ho : ∀ x, x < l.length → tOrd l x = true := fun x hx => ((tPre_cases _ _ _).1 (vFrom_at next l l.length 0 x (vT_facts h).2.2.2 (Nat.zero_le _) (by omega)).1).2.2.2.2.2.2
  rcases Nat.lt_trichotomy i j with c | c | c
  · have := text_asc l (j - i - 1) j i (fun x hx => ho x (by omega)) (by omega)
    rw [he] at this; exact absurd this (List.lt_irrefl _)
  · exact c
  · have := text_asc l (i - j - 1) i j (fun x hx => ho x (by omega)) (by omega)
    rw [he] at this; exact absurd this (List.lt_irrefl _)
theorem id_inj {next : Int} {l : List S51} (h : vT next l = true) {i j : Nat} (hi : i < l.length) (hj : j < l.length) (he : (gT l i).f0 = (gT l j).f0) : i = j := by
  have ho : ∀ x, x < l.length → noId l (gT l x).f0 0 x = true := fun x hx => (vFrom_at next l l.length 0 x (vT_facts h).2.2.2 (Nat.zero_le _) (by omega)).2
  rcases Nat.lt_trichotomy i j with c | c | c
  · exact absurd he ((noId_iff _ _ _ _).1 (ho j hj) i (Nat.zero_le _) (by omega))
  · exact c
  · exact absurd he.symm ((noId_iff _ _ _ _).1 (ho i hi) j (Nat.zero_le _) (by omega))
def ixText (l : List S51) (s : ByteArray) : Option Nat := l.findIdx? (fun t => decide (t.f1.toList = s.toList))
def ixId (l : List S51) (id : Int) : Option Nat := l.findIdx? (fun t => decide (t.f0 = id))
theorem getE {E : List (Nat × S51)} {l : List S51} (hE : E.map (·.2) = l) {i : Nat} (hi : i < E.length) : (E[i]).2 = gT l i := by
  subst hE
  rw [gT_at _ i (by simpa using hi), List.getElem_map]
theorem ixText_of {next : Int} {l : List S51} (hv : vT next l = true) {E : List (Nat × S51)} (hE : E.map (·.2) = l) {s : ByteArray} {b : Nat} {t : S51} (ht : tByText l s = some t) (hm : (b, t) ∈ E) : ∃ i, ∃ hi : i < E.length, ixText l s = some i ∧ E[i] = (b, t) := by
  obtain ⟨j, hj, hj2⟩ := List.getElem_of_mem hm
  have hlen : E.length = l.length := by rw [← hE]; simp
  have hs : t.f1.toList = s.toList := by have := List.find?_some ht; simpa using this
  have hjt : gT l j = t := by rw [← getE hE hj, hj2]
  refine ⟨j, hj, ?_, hj2⟩
  unfold ixText
  rw [List.findIdx?_eq_some_iff_getElem]
  refine ⟨by omega, by rw [← gT_at l j (by omega), hjt]; simpa using hs, fun x hx => ?_⟩
  have hne : ¬ (gT l x).f1.toList = s.toList := fun he => by have := text_inj hv (i := x) (j := j) (by omega) (by omega) (by rw [he, hjt, hs]); omega
  rw [← gT_at l x (by omega)]
  simpa using hne
theorem ixId_of {next : Int} {l : List S51} (hv : vT next l = true) {E : List (Nat × S51)} (hE : E.map (·.2) = l) {id : Int} {b : Nat} {t : S51} (ht : tById l id = some t) (hm : (b, t) ∈ E) : ∃ i, ∃ hi : i < E.length, ixId l id = some i ∧ E[i] = (b, t) := by
  obtain ⟨j, hj, hj2⟩ := List.getElem_of_mem hm
  have hlen : E.length = l.length := by rw [← hE]; simp
  have hs : t.f0 = id := by have := List.find?_some ht; simpa using this
  have hjt : gT l j = t := by rw [← getE hE hj, hj2]
  refine ⟨j, hj, ?_, hj2⟩
  unfold ixId
  rw [List.findIdx?_eq_some_iff_getElem]
  refine ⟨by omega, by rw [← gT_at l j (by omega), hjt]; simpa using hs, fun x hx => ?_⟩
  have hne : ¬ (gT l x).f0 = id := fun he => by have := id_inj hv (i := x) (j := j) (by omega) (by omega) (by rw [he, hjt, hs]); omega
  rw [← gT_at l x (by omega)]
  simpa using hne
theorem Book.pushAt {w w2 w4 : World} {lo bk m1 m2 g : Nat} {next : Int} {E : List (Nat × S51)} {t : S51} {x : Int} (h : Book w lo bk m1 m2 next E) (hg : lo ≤ g) (hgE : ∀ p ∈ E, p.1 ≠ g) (hb : w.heap[g]? = some (.cells #[.int .i64 t.f0, .string t.f1, .int .i64 x] 51 (0, 0)))
    (hS : fE kS E (kS t) = none) (hI : fE kI E (kI t) = none) (t1 : w.mapTurned w2 m1) (o1 : MapOf Try.prog w2 9 m1 (fput (fE kS E) (kS t) (some g)) (E.length + 1)) (t2 : w2.mapTurned w4 m2) (o2 : MapOf Try.prog w4 2 m2 (fput (fE kI E) (kI t) (some g)) (E.length + 1)) :
    Book w4 lo bk m1 m2 next (E ++ [(g, ⟨t.f0, t.f1, x⟩)]) := Book.push (t := ⟨t.f0, t.f1, x⟩) h hg hgE hb hS hI t1 o1 t2 o2

/-! ### impl_goods: a text by hand -/
def gTx (s : ByteArray) : Bool := decide (1 ≤ (s.size : Int)) && decide ((s.size : Int) ≤ 30)
def gNx (x : Int) : Bool := decide (1 ≤ x) && decide (x ≤ 2000000000)
theorem goodText_any (s : ByteArray) (w : World) : Calls Try.prog 48 #[.string s] w fun e w' => e = .returned (.bool (gTx s)) ∧ w' = w := by
  go_enter Try.func48, Try.ntmps48
  by_cases c1 : 1 ≤ (s.size : Int)
  · have e : gTx s = decide ((s.size : Int) ≤ 30) := by unfold gTx; rw [decide_eq_true c1, Bool.true_and]
    have E := Aside0.mk e
    clear e
    go_wp2_with fail
    go_ret
    exact ⟨by rw [E.out]; rfl, rfl⟩
  · have e : gTx s = false := by unfold gTx; rw [decide_eq_false c1, Bool.false_and]
    have E := Aside0.mk e
    clear e
    go_wp2_with fail
    go_ret
    exact ⟨by rw [E.out]; rfl, rfl⟩
theorem goodNumber_any (x : Int) (w : World) : Calls Try.prog 47 #[.int .i64 x] w fun e w' => e = .returned (.bool (gNx x)) ∧ w' = w := by
  go_enter Try.func47, Try.ntmps47
  by_cases c1 : 1 ≤ x
  · have e : gNx x = decide (x ≤ 2000000000) := by unfold gNx; rw [decide_eq_true c1, Bool.true_and]
    have E := Aside0.mk e
    clear e
    go_wp2_with fail
    go_ret
    exact ⟨by rw [E.out]; rfl, rfl⟩
  · have e : gNx x = false := by unfold gNx; rw [decide_eq_false c1, Bool.false_and]
    have E := Aside0.mk e
    clear e
    go_wp2_with fail
    go_ret
    exact ⟨by rw [E.out]; rfl, rfl⟩

/-! ### impl_intern1: a text by hand -/
-- import Derived.StillTailTactics
def iRes (next : Int) (l : List S51) (s : ByteArray) : Option (Int × Int × List S51) :=
  if gTx s = true then (match ixText l s with
    | some i => if (gT l i).f2 = 2000000000 then none else some ((gT l i).f0, next, l.set i ⟨(gT l i).f0, (gT l i).f1, (gT l i).f2 + 1⟩)
    | none => if l.length = 1200 ∨ next = 2000000000 then none else some (next, next + 1, l ++ [⟨next, s, 1⟩])) else none
theorem ixText_none {l : List S51} {s : ByteArray} (h : tByText l s = none) : ixText l s = none := by
  unfold tByText at h
  unfold ixText
  rw [List.find?_eq_none] at h
  rw [List.findIdx?_eq_none_iff]
  intro x hx
  simpa using h x hx
def InPost (lo bk m1 m2 : Nat) (next : Int) (l : List S51) (s : ByteArray) (w : World) (e : Ending) (w' : World) : Prop :=
  (iRes next l s = none ∧ e = .returned (.int .i64 0) ∧ w' = w) ∨ ∃ id next' l' E', iRes next l s = some (id, next', l') ∧ id ≠ 0 ∧ e = .returned (.int .i64 id) ∧ E'.map (·.2) = l' ∧ Book w' lo bk m1 m2 next' E' ∧ Below lo w w'
theorem Book.next {w : World} {lo bk m1 m2 : Nat} {next : Int} {E : List (Nat × S51)} (h : Book w lo bk m1 m2 next E) (n' : Int) : Book (w.setCell ⟨bk, 0, none⟩ (.int .i64 n')) lo bk m1 m2 n' E := by
  obtain ⟨h1, h2, h3, h4, h5, h6, h7, h8, h9⟩ := h
  obtain ⟨es1, cl1, hm1⟩ := MapOf.isMapObj h8
  obtain ⟨es2, cl2, hm2⟩ := MapOf.isMapObj h9
  have n1 : m1 ≠ bk := fun he => by rw [← he, hm1] at h6; cases h6
  have n2 : m2 ≠ bk := fun he => by rw [← he, hm2] at h6; cases h6
  refine ⟨h1, h2, h3, h4, h5, blk_put h6 0 _ rfl, fun p hp => ⟨(h7 p hp).1, blk_far (h7 p hp).2 (fun he => ?_) _⟩, MapOf.set h8 n1 _, MapOf.set h9 n2 _⟩
  have := (h7 p hp).2
  rw [he, h6] at this
  cases this
set_option maxHeartbeats 4000000 in
set_option maxRecDepth 100000 in
theorem intern_any {w : World} {lo bk m1 m2 : Nat} {next : Int} {E : List (Nat × S51)} {l : List S51} (hbk : Book w lo bk m1 m2 next E) (hE : E.map (·.2) = l) (hv : vT next l = true) (s : ByteArray) :
    Calls Try.prog 40 #[.pointer (some ⟨bk, 0, none⟩), .string s] w (InPost lo bk m1 m2 next l s w) := by
  have hu51 := Try.underlying51
  have hu61 := Try.underlying61
  have hl30 : ∀ t ∈ l, t.f1.size ≤ 30 := fun t ht => by have := vT_mem hv ht; omega
  obtain ⟨o, hlk, ho⟩ := Book.lookS hbk hE hl30 s
  have hlenE : E.length = l.length := by rw [← hE]; simp
  have b0 : w.cell? ⟨bk, 0, none⟩ = some (.int .i64 next) := (blk_cell hbk.2.2.2.2.2.1 0).trans rfl
  have b1 : w.cell? ⟨bk, 1, none⟩ = some (.map (some m1)) := (blk_cell hbk.2.2.2.2.2.1 1).trans rfl
  have b2 : w.cell? ⟨bk, 2, none⟩ = some (.map (some m2)) := (blk_cell hbk.2.2.2.2.2.1 2).trans rfl
  have bf := blk_frozen hbk.2.2.2.2.2.1 0
  have bl := blk_lt hbk.2.2.2.2.2.1
  have HBK := Aside0.mk hbk
  have HE := Aside0.mk hE
  have HV := Aside0.mk hv
  have HN := Aside0.mk (vT_facts hv)
  have HLE := Aside0.mk hlenE
  clear hlenE hl30
  by_cases cg : gTx s = true
  case neg =>
    have cg' : gTx s = false := by simpa using cg
    have HI := Aside0.mk (show iRes next l s = none by unfold iRes; rw [if_neg cg])
    clear hbk hE hv ho cg
    go_enter Try.func40, Try.ntmps40
    go_wp2_with fail
    refine (goodText_any s _).mono ?_
    rintro e w' ⟨rfl, rfl⟩
    rw [cg']
    go_wp2_with fail
    go_ret
    exact Or.inl ⟨HI.out, rfl, rfl⟩
  rcases ho with ⟨rfl, ho⟩ | ⟨b, t, rfl, ho, hm⟩
  case inr =>
    obtain ⟨i, hi, hix, hEi⟩ := ixText_of hv hE ho hm
    have ht : gT l i = t := by rw [← getE hE hi, hEi]
    have HT := Aside0.mk (show iRes next l s = if t.f2 = 2000000000 then none else some (t.f0, next, l.set i ⟨t.f0, t.f1, t.f2 + 1⟩) by unfold iRes; rw [if_pos cg, hix]; simp only [ht])
    have HB := Aside0.mk (hbk.2.2.2.2.2.2.1 _ hm)
    have HTB := Aside0.mk (vT_mem hv (show t ∈ l by rw [← hE]; exact List.mem_map_of_mem hm))
    have hbt : b ≠ bk := fun he => by have := (hbk.2.2.2.2.2.2.1 _ hm).2; simp only at this; rw [he, hbk.2.2.2.2.2.1] at this; cases this
    have t0 : w.cell? ⟨b, 0, none⟩ = some (.int .i64 t.f0) := (blk_cell HB.out.2 0).trans rfl
    have t2 : w.cell? ⟨b, 2, none⟩ = some (.int .i64 t.f2) := (blk_cell HB.out.2 2).trans rfl
    have tf := blk_frozen HB.out.2 2
    have tl := blk_lt HB.out.2
    have HS := Aside0.mk (Book.setRefs hbk i hi (t.f2 + 1))
    have HEi := Aside0.mk hEi
    simp only [ptrV] at hlk
    clear hbk hE hv ho hm hix ht
    have hw : IntKind.i64.wrap (t.f2 + 1) = t.f2 + 1 := by have := HTB.out; rw [i64_w]; unfold wrap64; omega
    have hw0 : 0 ≤ t.f2 := by have := HTB.out; omega
    have hw1 : t.f2 ≤ 2000000000 := HTB.out.2.2.2.2.2
    by_cases cm : t.f2 = 2000000000
    · have cmb : (t.f2 == 2000000000) = true := beq_iff_eq.2 cm
      have HI := Aside0.mk (show iRes next l s = none by rw [HT.out, if_pos cm])
      clear cm hw
      go_enter Try.func40, Try.ntmps40
      go_wp2_with fail
      refine (goodText_any s _).mono ?_
      rintro e w' ⟨rfl, rfl⟩
      rw [cg]
      go_wp2_with fail
      go_ret
      exact Or.inl ⟨HI.out, rfl, rfl⟩
    · have cmb : (t.f2 == 2000000000) = false := beq_eq_false_iff_ne.2 cm
      have HI := Aside0.mk (show iRes next l s = some (t.f0, next, l.set i ⟨t.f0, t.f1, t.f2 + 1⟩) by rw [HT.out, if_neg cm])
      clear cm hw
      go_enter Try.func40, Try.ntmps40
      go_wp2_with fail
      refine (goodText_any s _).mono ?_
      rintro e w' ⟨rfl, rfl⟩
      rw [cg]
      go_wp2_with fail
      go_ret
      refine Or.inr ⟨t.f0, next, _, E.set i (b, ⟨t.f0, t.f1, t.f2 + 1⟩), HI.out, by have := HTB.out; omega, rfl, ?_, ?_, ?_⟩
      · rw [List.map_set, HE.out]
      · have h := HS.out
        rw [HEi.out] at h
        exact h
      · exact (Below.refl lo _).setCell HB.out.1 _
  case inl =>
    have HIX := Aside0.mk (ixText_none ho)
    have HTN := Aside0.mk ho
    have HT := Aside0.mk (show iRes next l s = if l.length = 1200 ∨ next = 2000000000 then none else some (next, next + 1, l ++ [⟨next, s, 1⟩]) by unfold iRes; rw [if_pos cg, HIX.out])
    simp only [ptrV] at hlk
    have hlen := MapOf.len (t := 58) hbk.2.2.2.2.2.2.2.1 Try.underlying58
    rw [HLE.out] at hlen
    clear hbk hE hv ho
    by_cases c1 : l.length = 1200
    · have HI := Aside0.mk (show iRes next l s = none by rw [HT.out, if_pos (Or.inl c1)])
      have c1b : ((l.length : Int) == 1200) = true := by simpa using (by omega : (l.length : Int) = 1200)
      clear c1
      go_enter Try.func40, Try.ntmps40
      go_wp2_with fail
      refine (goodText_any s _).mono ?_
      rintro e w' ⟨rfl, rfl⟩
      rw [cg]
      go_wp2_with fail
      go_ret
      exact Or.inl ⟨HI.out, rfl, rfl⟩
    · have c1b : ((l.length : Int) == 1200) = false := by simpa using (by omega : ¬ (l.length : Int) = 1200)
      by_cases c2 : next = 2000000000
      · have HI := Aside0.mk (show iRes next l s = none by rw [HT.out, if_pos (Or.inr c2)])
        have c2b : (next == 2000000000) = true := beq_iff_eq.2 c2
        clear c1 c2
        go_enter Try.func40, Try.ntmps40
        go_wp2_with fail
        refine (goodText_any s _).mono ?_
        rintro e w' ⟨rfl, rfl⟩
        rw [cg]
        go_wp2_with fail
        go_ret
        exact Or.inl ⟨HI.out, rfl, rfl⟩
      · have HI := Aside0.mk (show iRes next l s = some (next, next + 1, l ++ [⟨next, s, 1⟩]) by rw [HT.out, if_neg (by rintro (h | h); exact c1 h; exact c2 h)])
        have c2b : (next == 2000000000) = false := beq_eq_false_iff_ne.2 c2
        clear c1 c2
        go_enter Try.func40, Try.ntmps40
        go_wp2_with fail
        refine (goodText_any s _).mono ?_
        rintro e w' ⟨rfl, rfl⟩
        rw [cg]
        go_wp2_with fail
        rename World => w
        have R_BK := Aside0.mk (Book.alloc HBK.out (.cells #[.int .i64 next, .string s, .int .i64 0] 51))
        have R_KT := Aside0.mk (blk_new w (.cells #[.int .i64 next, .string s, .int .i64 0] 51))
        have HG := Aside0.mk (show lo ≤ w.heap.size ∧ ∀ p ∈ E, p.1 ≠ w.heap.size from ⟨by have := blk_lt HBK.out.2.2.2.2.2.1; have := HBK.out.1; omega, fun p hp => Nat.ne_of_lt (blk_lt (HBK.out.2.2.2.2.2.2.1 p hp).2)⟩)
        have HBl := Aside0.mk (show Below lo w (w.alloc (.cells #[.int .i64 next, .string s, .int .i64 0] 51)) from (Below.refl lo _).alloc HG.out.1 _)
        have hgbk : w.heap.size ≠ bk := Nat.ne_of_gt bl
        clear b0 b1 b2 bf bl hlk hlen HBK
        generalize w.alloc (.cells #[.int .i64 next, .string s, .int .i64 0] 51) = W2 at *
        generalize w.heap.size = g at *
        have b0 : W2.cell? ⟨bk, 0, none⟩ = some (.int .i64 next) := (blk_cell R_BK.out.2.2.2.2.2.1 0).trans rfl
        have b1 : W2.cell? ⟨bk, 1, none⟩ = some (.map (some m1)) := (blk_cell R_BK.out.2.2.2.2.2.1 1).trans rfl
        have b2 : W2.cell? ⟨bk, 2, none⟩ = some (.map (some m2)) := (blk_cell R_BK.out.2.2.2.2.2.1 2).trans rfl
        have t0 : W2.cell? ⟨g, 0, none⟩ = some (.int .i64 next) := (blk_cell R_KT.out 0).trans rfl
        have hFS := fE_none.2 (show ∀ p ∈ E, kS p.2 ≠ kS ⟨next, s, 1⟩ from fun p hp he => by
          have h1 := HTN.out
          unfold tByText at h1
          rw [List.find?_eq_none] at h1
          have h2 := h1 p.2 (by rw [← HE.out]; exact List.mem_map_of_mem hp)
          have h3 : p.2.f1.data.toList = s.data.toList := Lit.string.inj he
          simp [ByteArray.toList_eq, h3] at h2)
        have hFI := fE_none.2 (show ∀ p ∈ E, kI p.2 ≠ kI ⟨next, s, 1⟩ from fun p hp he => by
          have h1 := vT_mem HV.out (show p.2 ∈ l by rw [← HE.out]; exact List.mem_map_of_mem hp)
          have h3 : p.2.f0 = next := (Lit.int.inj he).2
          omega)
        have hEl : E.length < maxLen := by have := HLE.out; have := HN.out.2.2.1; unfold maxLen; omega
        have hs30 : s.size ≤ maxLen := by unfold gTx at cg; simp at cg; unfold maxLen; omega
        obtain ⟨st1, wa, wb, hA, hB, oS, tS, _⟩ := MapOf.entry (show MapOf Try.prog W2.drew 9 m1 (fE kS E) E.length from R_BK.out.2.2.2.2.2.2.2.1) lawS Try.underlying58 zeroTerm hEl (keyS s hs30) hFS g
        have N2 := MapOf.kept (show MapOf Try.prog W2.drew 2 m2 (fE kI E) E.length from R_BK.out.2.2.2.2.2.2.2.2) tS.grown (by simp [Ne.symm R_BK.out.2.2.2.1])
        obtain ⟨st2, wc, wd, hC, hD, oI, tI, _⟩ := MapOf.entry N2 lawI Try.underlying59 zeroTerm hEl (keyI next (by have := HN.out; omega) (by have := HN.out; omega)) hFI g
        have HA := Aside0.mk hA
        have HBs := Aside0.mk hB
        have HCs := Aside0.mk hC
        have HD := Aside0.mk hD
        have OS := Aside0.mk oS
        have TS := Aside0.mk tS
        have OI := Aside0.mk oI
        have TI := Aside0.mk tI
        have HFS := Aside0.mk hFS
        have HFI := Aside0.mk hFI
        clear hA hB hC hD oS tS oI tI hFS hFI hEl hs30 N2
        have yl := blk_lt R_KT.out
        have bl := blk_lt R_BK.out.2.2.2.2.2.1
        have hA := HA.out
        have hB := HBs.out
        have hC := HCs.out
        have hD := HD.out
        go_region
        clear hA hB hC hD b0 b1 b2 t0 bl
        have hP := Book.pushAt (w := W2.drew) (g := g) (t := ⟨next, s, 1⟩) (x := 0) R_BK.out HG.out.1 HG.out.2 R_KT.out HFS.out HFI.out TS.out OS.out TI.out OI.out
        have hwb : Below lo w wd := by
          have b1 := HBl.out.drew.grown TS.out.grown (by have := HBl.out.size; exact Nat.le_trans HG.out.1 (Nat.le_of_lt yl)) (fun k hk => by cases hk; exact R_BK.out.2.1)
          exact b1.grown TI.out.grown (Nat.le_trans (Nat.le_trans HG.out.1 (Nat.le_of_lt yl)) TS.out.grown.size) (fun k hk => by cases hk; exact R_BK.out.2.2.1)
        have HPP := Aside0.mk hP
        have HWB := Aside0.mk hwb
        clear hP hwb yl
        have b0 : wd.cell? ⟨bk, 0, none⟩ = some (.int .i64 next) := (blk_cell HPP.out.2.2.2.2.2.1 0).trans rfl
        have bf := blk_frozen HPP.out.2.2.2.2.2.1 0
        have bl := blk_lt HPP.out.2.2.2.2.2.1
        have KG := Aside0.mk (HPP.out.2.2.2.2.2.2.1 (g, ⟨next, s, 0⟩) (by simp)).2
        have t0 : wd.cell? ⟨g, 0, none⟩ = some (.int .i64 next) := (blk_cell KG.out 0).trans rfl
        have t2 : wd.cell? ⟨g, 2, none⟩ = some (.int .i64 0) := (blk_cell KG.out 2).trans rfl
        have tf := blk_frozen KG.out 2
        have tl := blk_lt KG.out
        have n0 : 1 ≤ next := HN.out.1
        have n1 : next ≤ 2000000000 := HN.out.2.1
        go_wp2_with fail
        go_ret
        refine Or.inr ⟨next, next + 1, _, E ++ [(g, ⟨next, s, 1⟩)], HI.out, by omega, rfl, by rw [List.map_append, HE.out]; rfl, ?_, ?_⟩
        · have h1 := Book.next HPP.out (next + 1)
          have h2 := Book.setRefs h1 E.length (by simp) 1
          simpa using h2
        · exact (HWB.out.setCell (by have := R_BK.out.1; omega) _).setCell HG.out.1 _

/-! ### L_intern: a text by hand -/
def ltX (x y : S51) : Prop := x.f1.toList < y.f1.toList
theorem vT_asc {next : Int} {l : List S51} (h : vT next l = true) : l.Pairwise ltX := by
  have ho : ∀ x, x < l.length → tOrd l x = true := fun x hx => ((tPre_cases _ _ _).1 (vFrom_at next l l.length 0 x (vT_facts h).2.2.2 (Nat.zero_le _) (by omega)).1).2.2.2.2.2.2
  rw [List.pairwise_iff_getElem]
  intro i j hi hj hij
  have := text_asc l (j - i - 1) j i (fun x hx => ho x (by omega)) (by omega)
  rw [gT_at l i hi, gT_at l j hj] at this
  exact this
theorem asc_unique : ∀ {xs ys : List S51}, xs.Perm ys → xs.Pairwise ltX → ys.Pairwise ltX → xs = ys
  | [], ys, hp, _, _ => by rw [List.nil_perm.1 hp]
  | x :: xs, [], hp, _, _ => by have := hp.length_eq; simp at this
  | x :: xs, y :: ys, hp, hx, hy => by
    rw [List.pairwise_cons] at hx hy
    have hxy : x = y := by
      rcases List.mem_cons.1 (hp.mem_iff.1 (List.mem_cons_self : x ∈ x :: xs)) with h | h
      · exact h
      · rcases List.mem_cons.1 (hp.mem_iff.2 (List.mem_cons_self : y ∈ y :: ys)) with h2 | h2
        · exact h2.symm
        · exact absurd (List.lt_trans (hy.1 x h) (hx.1 y h2)) (List.lt_irrefl _)
    subst hxy
    rw [asc_unique (List.Perm.cons_inv hp) hx.2 hy.2]
theorem asc_set {l : List S51} (h : l.Pairwise ltX) (i : Nat) (q : S51) (hi : i < l.length) (hq : q.f1 = (gT l i).f1) : (l.set i q).Pairwise ltX := by
  have e : (l.set i q).map (·.f1) = l.map (·.f1) := set_same _ _ _ _ hi (by rw [hq, gT_at l i hi])
  have h1 : ((l.set i q).map (·.f1)).Pairwise (fun x y => x.toList < y.toList) := by rw [e]; exact List.pairwise_map.2 h
  exact (List.pairwise_map (f := fun t : S51 => t.f1) (R := fun x y => x.toList < y.toList)).1 h1
def insP (l : List S51) (s : ByteArray) : Nat := (l.takeWhile (fun t => decide (t.f1.toList < s.toList))).length
theorem insP_le (l : List S51) (s : ByteArray) : insP l s ≤ l.length := (List.takeWhile_sublist _).length_le
theorem take_insP (l : List S51) (s : ByteArray) : l.take (insP l s) = l.takeWhile (fun t => decide (t.f1.toList < s.toList)) := by
  have h : l.takeWhile (fun t => decide (t.f1.toList < s.toList)) ++ l.dropWhile (fun t => decide (t.f1.toList < s.toList)) = l := List.takeWhile_append_dropWhile
  unfold insP
  generalize l.takeWhile (fun t => decide (t.f1.toList < s.toList)) = a at *
  generalize l.dropWhile (fun t => decide (t.f1.toList < s.toList)) = b at *
  subst h
  simp
theorem drop_insP (l : List S51) (s : ByteArray) : l.drop (insP l s) = l.dropWhile (fun t => decide (t.f1.toList < s.toList)) := by
  have h : l.takeWhile (fun t => decide (t.f1.toList < s.toList)) ++ l.dropWhile (fun t => decide (t.f1.toList < s.toList)) = l := List.takeWhile_append_dropWhile
  unfold insP
  generalize l.takeWhile (fun t => decide (t.f1.toList < s.toList)) = a at *
  generalize l.dropWhile (fun t => decide (t.f1.toList < s.toList)) = b at *
  subst h
  simp
theorem asc_ins : ∀ (l : List S51) (n : S51), l.Pairwise ltX → (∀ t ∈ l, t.f1.toList ≠ n.f1.toList) → ((l.take (insP l n.f1) ++ [n]) ++ l.drop (insP l n.f1)).Pairwise ltX
  | [], n, _, _ => by simp [insP]
  | x :: l, n, h, hne => by
    rw [take_insP, drop_insP]
    by_cases c : x.f1.toList < n.f1.toList
    · rw [List.takeWhile_cons_of_pos (by simpa using c), List.dropWhile_cons_of_pos (by simpa using c)]
      have ih := asc_ins l n (List.pairwise_cons.1 h).2 (fun t ht => hne t (List.mem_cons_of_mem _ ht))
      rw [take_insP, drop_insP] at ih
      rw [List.cons_append, List.cons_append, List.pairwise_cons]
      refine ⟨fun y hy => ?_, ih⟩
      rcases List.mem_append.1 hy with hy | hy
      · rcases List.mem_append.1 hy with hy | hy
        · exact (List.pairwise_cons.1 h).1 y ((List.takeWhile_sublist _).mem hy)
        · rw [List.mem_singleton.1 hy]; exact c
      · exact (List.pairwise_cons.1 h).1 y ((List.dropWhile_sublist _).mem hy)
    · rw [List.takeWhile_cons_of_neg (by simpa using c), List.dropWhile_cons_of_neg (by simpa using c)]
      have hx : n.f1.toList < x.f1.toList := by
        by_cases c2 : n.f1.toList < x.f1.toList
        · exact c2
        · exact absurd (List.le_antisymm (Std.not_lt.1 c2) (Std.not_lt.1 c)) (hne x List.mem_cons_self)
      rw [List.nil_append, List.singleton_append, List.pairwise_cons]
      refine ⟨fun y hy => ?_, h⟩
      rcases List.mem_cons.1 hy with rfl | hy
      · exact hx
      · exact List.lt_trans hx ((List.pairwise_cons.1 h).1 y hy)
def sIntern (next : Int) (l : List S51) (s : ByteArray) : Bool × Int × Int × List S51 :=
  if vT next l = true then (if gTx s = true then (match ixText l s with
    | some i => if (gT l i).f2 = 2000000000 then (false, 0, next, l) else (true, (gT l i).f0, next, l.set i ⟨(gT l i).f0, (gT l i).f1, (gT l i).f2 + 1⟩)
    | none => if l.length = 1200 ∨ next = 2000000000 then (false, 0, next, l) else (true, next, next + 1, (l.take (insP l s) ++ [⟨next, s, 1⟩]) ++ l.drop (insP l s))) else (false, 0, next, l)) else (false, 0, next, l)
theorem sIntern_no {next : Int} {l : List S51} {s : ByteArray} (h : vT next l = false ∨ iRes next l s = none) : sIntern next l s = (false, 0, next, l) := by
  unfold sIntern
  rcases h with h | h
  · rw [h]; rfl
  · unfold iRes at h
    split
    · split
      · rw [if_pos ‹_›] at h
        split
        · rename_i i hi
          rw [hi] at h
          simp only at h
          split
          · rfl
          · rw [if_neg ‹_›] at h; cases h
        · rename_i hi
          rw [hi] at h
          simp only at h
          split
          · rfl
          · rw [if_neg ‹_›] at h; cases h
      · rfl
    · rfl
theorem ixText_ne {l : List S51} {s : ByteArray} (h : ixText l s = none) : ∀ t ∈ l, t.f1.toList ≠ s.toList := by
  unfold ixText at h
  rw [List.findIdx?_eq_none_iff] at h
  intro t ht
  simpa using h t ht
theorem ixText_lt {l : List S51} {s : ByteArray} {i : Nat} (h : ixText l s = some i) : i < l.length := (List.findIdx?_eq_some_iff_getElem.1 h).1
theorem sIntern_yes {next : Int} {l : List S51} {s : ByteArray} {id n' : Int} {l' : List S51} (hv : vT next l = true) (h : iRes next l s = some (id, n', l')) : ∃ L, sIntern next l s = (true, id, n', L) ∧ L.Perm l' ∧ L.Pairwise ltX := by
  unfold sIntern
  unfold iRes at h
  rw [if_pos hv]
  split
  · rw [if_pos ‹_›] at h
    split
    · rename_i i hi
      rw [hi] at h
      simp only at h
      split
      · rw [if_pos ‹_›] at h; cases h
      · rw [if_neg ‹_›] at h
        cases h
        exact ⟨_, rfl, List.Perm.refl _, asc_set (vT_asc hv) i _ (ixText_lt hi) rfl⟩
    · rename_i hi
      rw [hi] at h
      simp only at h
      split
      · rw [if_pos ‹_›] at h; cases h
      · rw [if_neg ‹_›] at h
        cases h
        refine ⟨_, rfl, ?_, asc_ins l ⟨next, s, 1⟩ (vT_asc hv) (ixText_ne hi)⟩
        have e : l ++ [(⟨next, s, 1⟩ : S51)] = (l.take (insP l s) ++ l.drop (insP l s)) ++ [⟨next, s, 1⟩] := by rw [List.take_append_drop]
        rw [e, List.append_assoc, List.append_assoc]
        exact List.Perm.append_left _ List.perm_append_comm
  · rw [if_neg ‹_›] at h; cases h
theorem asc_nodup {L : List S51} (h : L.Pairwise ltX) : (L.map kS).Nodup := by
  rw [List.Nodup, List.pairwise_map]
  refine h.imp (fun {x y} hxy he => ?_)
  have h1 : x.f1.data.toList = y.f1.data.toList := Lit.string.inj he
  unfold ltX at hxy
  rw [ByteArray.toList_eq, ByteArray.toList_eq, h1] at hxy
  exact List.lt_irrefl _ hxy
theorem iRes_facts {next : Int} {l : List S51} {s : ByteArray} {id n' : Int} {l' : List S51} (hv : vT next l = true) (h : iRes next l s = some (id, n', l')) : (l'.map kS).Nodup ∧ l'.length ≤ 1200 := by
  obtain ⟨L, _, hp, ha⟩ := sIntern_yes hv h
  refine ⟨(hp.map _).nodup_iff.1 (asc_nodup ha), ?_⟩
  have hl := (vT_facts hv).2.2.1
  unfold iRes at h
  split at h
  · split at h
    · split at h
      · cases h
      · cases h; simpa using hl
    · split at h
      · cases h
      · rename_i hc
        cases h
        have : l.length ≠ 1200 := fun he => hc (Or.inl he)
        simp; omega
  · cases h

/-! ### L_intern2: a text by hand -/
theorem l4Copy_eq {next : Int} {l : List S51} {r : Int × List S51} (h : spec_l4Copy.f next l = some r) : l.length < 4398046511104 ∧ r = (next, l) := by
  unfold spec_l4Copy.f at h
  rw [Option.bind_some] at h
  split at h
  · rename_i hl
    simp only [List.nil_append, Option.some.injEq] at h
    exact ⟨by simpa using hl, h.symm⟩
  · cases h
theorem l4Copy_ok {next : Int} {l : List S51} (h : l.length < 4398046511104) : spec_l4Copy.f next l = some (next, l) := by
  unfold spec_l4Copy.f
  rw [Option.bind_some, if_pos (by simpa using h)]
  rfl
theorem dropI (l : List S51) (i : Nat) (h : i < l.length) : l.drop i = gT l i :: l.drop (i + 1) := by rw [gT_at l i h]; exact List.drop_eq_getElem_cons h
theorem byTextIx_loop (next : Int) (l : List S51) (s : ByteArray) (hl : l.length ≤ 1048576) : ∀ (d i : Nat), i + d = l.length → Ev (fun k => spec_l4ByText.l0 k s (i : Int) next l) (match ixText (l.drop i) s with | some j => ((i + j : Nat) : Int) | none => -1) := by
  intro d
  induction d with
  | zero =>
    intro i hi
    rw [List.drop_of_length_le (by omega)]
    exact Ev.step (f := fun _ => some (-1)) (fun K => by simp only [spec_l4ByText.l0]; rw [if_neg (by omega)]) (Ev.now _)
  | succ d ih =>
    intro i hi
    rw [dropI l i (by omega)]
    by_cases c : (gT l i).f1.toList = s.toList
    · have e : ixText (gT l i :: l.drop (i + 1)) s = some 0 := by unfold ixText; rw [List.findIdx?_cons, if_pos (by simpa using c)]
      rw [e]
      exact Ev.step (f := fun _ => some (i : Int)) (fun K => by simp only [spec_l4ByText.l0]; rw [if_pos (by omega), if_pos (by omega), gT_rd, if_pos c]) (Ev.now _)
    · have e : ixText (gT l i :: l.drop (i + 1)) s = (ixText (l.drop (i + 1)) s).map (· + 1) := by unfold ixText; rw [List.findIdx?_cons, if_neg (by simpa using c)]
      rw [e]
      have ih' := ih (i + 1) (by omega)
      have e2 : (match (ixText (l.drop (i + 1)) s).map (· + 1) with | some j => ((i + j : Nat) : Int) | none => -1) = (match ixText (l.drop (i + 1)) s with | some j => ((i + 1 + j : Nat) : Int) | none => -1) := by
        cases ixText (l.drop (i + 1)) s with
        | none => rfl
        | some j => exact congrArg (fun n : Nat => (n : Int)) (by omega : i + (j + 1) = i + 1 + j)
      rw [e2]
      exact Ev.step (fun K => by simp only [spec_l4ByText.l0]; rw [if_pos (by omega), if_pos (by omega), gT_rd, if_neg c, show wrap64 ((i : Int) + 1) = ((i + 1 : Nat) : Int) by unfold wrap64; omega]) ih'
theorem byTextIx_ev (next : Int) (l : List S51) (s : ByteArray) (hl : l.length ≤ 1048576) : Ev (fun k => spec_l4ByText.f k next l s) (match ixText l s with | some j => (j : Int) | none => -1) := by
  have h := byTextIx_loop next l s hl l.length 0 (by omega)
  simpa [spec_l4ByText.f] using h
theorem ins_loop (next : Int) (l : List S51) (s : ByteArray) (hl : l.length ≤ 1200) (hn : 0 ≤ next ∧ next ≤ 2000000000) : ∀ (d i : Nat), i + d = l.length → (∀ j, j < i → (gT l j).f1.toList < s.toList) → Ev (fun k => spec_Intern.l0 k s (i : Int) next l) (true, next, next + 1, (l.take (i + insP (l.drop i) s) ++ [⟨next, s, 1⟩]) ++ l.drop (i + insP (l.drop i) s)) := by
  have hw : wrap64 (next + 1) = next + 1 := by unfold wrap64; omega
  intro d
  induction d with
  | zero =>
    intro i hi _
    have hi' : i = l.length := by omega
    subst hi'
    rw [List.drop_of_length_le (Nat.le_refl _), show insP [] s = 0 from rfl, Nat.add_zero, List.take_length, List.drop_length]
    refine Ev.step (f := fun _ => some (true, next, next + 1, (l ++ [⟨next, s, 1⟩]) ++ [])) (fun K => ?_) (Ev.now _)
    simp only [spec_Intern.l0]
    rw [if_neg (by omega)]
    simp only [Option.bind_some, Int.toNat_natCast, List.take_length, List.drop_length, hw]
    rw [if_pos (by omega), if_pos (by omega), if_pos (by simp; omega), if_pos (by simp; omega), if_pos (by simp; omega)]
    simp
  | succ d ih =>
    intro i hi hlt
    by_cases c : (gT l i).f1.toList < s.toList
    · have e : insP (l.drop i) s = insP (l.drop (i + 1)) s + 1 := by
        rw [dropI l i (by omega)]
        unfold insP
        rw [List.takeWhile_cons_of_pos (by simpa using c)]
        rfl
      rw [e, show i + (insP (l.drop (i + 1)) s + 1) = i + 1 + insP (l.drop (i + 1)) s by omega]
      have ih' := ih (i + 1) (by omega) (fun j hj => by
        rcases Nat.lt_or_ge j i with h | h
        · exact hlt j h
        · obtain rfl : j = i := by omega
          exact c)
      exact Ev.step (fun K => by simp only [spec_Intern.l0]; rw [if_pos (by omega), if_pos (by omega), gT_rd, if_pos (by rw [bless_eq]; exact decide_eq_true c), show wrap64 ((i : Int) + 1) = ((i + 1 : Nat) : Int) by unfold wrap64; omega]) ih'
    · have e : insP (l.drop i) s = 0 := by
        rw [dropI l i (by omega)]
        unfold insP
        rw [List.takeWhile_cons_of_neg (by simpa using c)]
        rfl
      rw [e, Nat.add_zero]
      refine Ev.step (f := fun _ => some (true, next, next + 1, (l.take i ++ [⟨next, s, 1⟩]) ++ l.drop i)) (fun K => ?_) (Ev.now _)
      simp only [spec_Intern.l0]
      rw [if_pos (by omega), if_pos (by omega), gT_rd, if_neg (by rw [bless_eq]; simpa using c)]
      simp only [Option.bind_some, Int.toNat_natCast, hw]
      rw [if_pos (by omega), if_pos (by simp; omega), if_pos (by simp; omega), if_pos (by simp; omega)]
      simp
theorem specIntern_ev (next : Int) (l : List S51) (s : ByteArray) (hL : l.length < 4398046511104) : Ev (fun k => spec_Intern.f k next l s) (sIntern next l s) := by
  unfold spec_Intern.f
  refine Ev.congr (fun K => by rw [l4Copy_ok hL]) ?_
  refine Ev.bind (Ev.now _) ?_
  refine Ev.bind (Ev.now _) ?_
  refine Ev.bind (specValid_ev next l) ?_
  unfold sIntern
  by_cases hv : vT next l = true
  · have hf := vT_facts hv
    refine Ev.congr (fun K => by rw [if_pos hv]) ?_
    rw [if_pos hv]
    by_cases c1 : (s.size : Int) < 1
    · rw [if_neg (show ¬ gTx s = true by unfold gTx; simp; omega)]
      refine Ev.congr (fun K => by rw [if_pos c1]) (Ev.step (f := fun _ => some (false, 0, next, l)) (fun K => by simp only [spec_Intern.j0]; rw [if_pos trivial]) (Ev.now _))
    · refine Ev.congr (fun K => by rw [if_neg c1]) ?_
      by_cases c2 : (s.size : Int) > 30
      · rw [if_neg (show ¬ gTx s = true by unfold gTx; simp; omega)]
        refine Ev.congr (fun K => by rw [decide_eq_true c2]) (Ev.step (f := fun _ => some (false, 0, next, l)) (fun K => by simp only [spec_Intern.j0]; rw [if_pos trivial]) (Ev.now _))
      · rw [if_pos (show gTx s = true by unfold gTx; simp; omega)]
        refine Ev.congr (fun K => by rw [decide_eq_false c2]) ?_
        refine Ev.step (fun K => by simp only [spec_Intern.j0]; rw [if_neg (by decide)]) ?_
        refine Ev.bind (byTextIx_ev next l s (by omega)) ?_
        cases hi : ixText l s with
        | some i =>
          have hil := ixText_lt hi
          simp only
          refine Ev.congr (fun K => by rw [if_pos (by omega), if_pos (by omega), if_pos (by omega), gT_rd]) ?_
          have hm := vT_mem hv (show gT l i ∈ l by rw [gT_at l i hil]; exact List.getElem_mem _)
          by_cases c3 : (gT l i).f2 = 2000000000
          · rw [if_pos c3]
            exact Ev.congr (fun K => by rw [if_pos c3]) (Ev.now _)
          · rw [if_neg c3]
            exact Ev.congr (fun K => by rw [if_neg c3, Int.toNat_natCast, show wrap64 ((gT l i).f2 + 1) = (gT l i).f2 + 1 by unfold wrap64; omega, if_pos (by omega)]) (Ev.now _)
        | none =>
          simp only
          refine Ev.congr (fun K => by rw [if_neg (by decide)]) ?_
          by_cases c3 : l.length = 1200
          · rw [if_pos (Or.inl c3)]
            exact Ev.congr (fun K => by rw [if_pos (by omega)]) (Ev.step (f := fun _ => some (false, 0, next, l)) (fun K => by simp only [spec_Intern.j1]; rw [if_pos trivial]) (Ev.now _))
          · refine Ev.congr (fun K => by rw [if_neg (by omega)]) ?_
            by_cases c4 : next = 2000000000
            · rw [if_pos (Or.inr c4)]
              exact Ev.congr (fun K => by rw [beq_iff_eq.2 c4]) (Ev.step (f := fun _ => some (false, 0, next, l)) (fun K => by simp only [spec_Intern.j1]; rw [if_pos trivial]) (Ev.now _))
            · rw [if_neg (by rintro (h | h); exact c3 h; exact c4 h)]
              refine Ev.congr (fun K => by rw [beq_eq_false_iff_ne.2 c4]) ?_
              refine Ev.step (fun K => by simp only [spec_Intern.j1]; rw [if_neg (by decide)]) ?_
              have h := ins_loop next l s (by omega) ⟨by omega, by omega⟩ l.length 0 (by omega) (fun j hj => absurd hj (Nat.not_lt_zero _))
              simpa using h
  · have hv' : vT next l = false := by simpa using hv
    rw [if_neg hv]
    exact Ev.congr (fun K => by rw [if_neg hv]) (Ev.step (f := fun _ => some (false, 0, next, l)) (fun K => by simp only [spec_Intern.j0]; rw [if_pos trivial]) (Ev.now _))
theorem specIntern_h {k : Nat} {next : Int} {l : List S51} {s : ByteArray} {r : Bool × Int × Int × List S51} (h : spec_Intern.f k next l s = some r) : l.length < 4398046511104 ∧ r = sIntern next l s := by
  have hL : l.length < 4398046511104 := by
    have h1 := h
    unfold spec_Intern.f at h1
    obtain ⟨t, ht, _⟩ := Option.bind_eq_some_iff.1 h1
    exact (l4Copy_eq ht).1
  exact ⟨hL, ev_eq (spec_Intern.mono next l s) (specIntern_ev next l s hL) h⟩

/-! ### L_still: a text by hand -/
-- import Derived.StillTailTactics
theorem list_val {P : Program} {w w1 : World} {ops : Array Oper} {rest : List Oper} {o : Oper} {a : Act} {Q : Exit → Act → World → Prop} {v : Value} (hg : o.guard = none) (h : (execOp a.eval o).run P w = .ok (.value v) w1) (hK : wpList P ops Q rest (a.put o.dst v) w1) : wpList P ops Q (o :: rest) a w := by
  refine wpList_plain hg fun K' hK' => ?_
  unfold Oper.wp
  simp only [h, Oper.upon]
  exact hK' _ _ hK
theorem list_skip {P : Program} {w w1 : World} {ops : Array Oper} {rest : List Oper} {o : Oper} {a : Act} {Q : Exit → Act → World → Prop} (hg : o.guard = none) (h : (execOp a.eval o).run P w = .ok .skip w1) (hK : wpList P ops Q rest (a.put o.dst undef) w1) : wpList P ops Q (o :: rest) a w := by
  refine wpList_plain hg fun K' hK' => ?_
  unfold Oper.wp
  simp only [h, Oper.upon]
  exact hK' _ _ hK
theorem exec_mapEntry {P : Program} {o : Oper} {r : Operand → Value} {W w1 : World} (t : TypeId) (m x : Operand) (ho : o.op = .mapEntry t m x) {vm vx v : Value} (hm : r m = vm) (hx : r x = vx) (h : (Instr.mapEntry t vm vx).run P W = .ok v w1) : (execOp r o).run P W = .ok (.value v) w1 := by
  unfold execOp
  simp only [ho, hm, hx, Sem.run_bind, Sem.run_pure, Result.andThen_ok, h]
theorem exec_entryStore {P : Program} {o : Oper} {r : Operand → Value} {W w1 : World} (t : TypeId) (m s x : Operand) (ho : o.op = .entryStore t m s x) {vm vs vx : Value} (hm : r m = vm) (hs : r s = vs) (hx : r x = vx) (h : (Instr.entryStore t vm vs vx).run P W = .ok () w1) : (execOp r o).run P W = .ok .skip w1 := by
  unfold execOp
  simp only [ho, hm, hs, hx, Sem.run_bind, Sem.run_pure, Result.andThen_ok, h]
theorem exec_extract {P : Program} {o : Oper} {r : Operand → Value} {W : World} (x : Operand) (i : Nat) (ho : o.op = .extract x i) {vs : Array Value} {v : Value} (hx : r x = .tuple vs) (hv : vs[i]? = some v) : (execOp r o).run P W = .ok (.value v) W := by
  unfold execOp
  simp [ho, hx, go_sem, hv, Instr.extract]
theorem exec_delete {P : Program} {o : Oper} {r : Operand → Value} {W w1 : World} (t k : TypeId) (m x : Operand) (ho : o.op = .call { callee := .builtin .delete, args := #[m, x], argTypes := #[t, k] }) {vm vx : Value} (hm : r m = vm) (hx : r x = vx) (h : (Builtin.delete_ #[t, k] o.type #[vm, vx]).run P W = .ok (.tuple #[]) w1) : (execOp r o).run P W = .ok (.value (.tuple #[])) w1 := by
  unfold execOp
  simp [ho, resolve, invoke, builtin, hm, hx, h, Result.andThen]
theorem step_delete {P : Program} {ops : Array Oper} {o : Oper} {a : Act} {w w1 : World} {K : Act → World → Prop} {Q : Exit → Act → World → Prop} {E : Prop} (hgd : o.guard = none) (t k : TypeId) (m x : Operand) (ho : o.op = .call { callee := .builtin .delete, args := #[m, x], argTypes := #[t, k] }) {vm vx : Value} (hm : a.eval m = vm) (hx : a.eval x = vx) (h : (Builtin.delete_ #[t, k] o.type #[vm, vx]).run P w = .ok (.tuple #[]) w1) (hK : K (a.put o.dst (.tuple #[])) w1) :
    if Region.wanted o (yielded ops a.tmps) = true then Oper.wp P o a w K Q else E := by
  have hw : Region.wanted o (yielded ops a.tmps) = true := by simp [Region.wanted, hgd]
  rw [if_pos hw]
  unfold Oper.wp
  simp [execOp, ho, resolve, invoke, builtin, hm, hx, h, Result.andThen]
  exact hK

/-! ### impl_book: a text by hand -/
-- import Derived.WalkLawsBesides
-- import Derived.StillTailTactics
def BookPost (next : Int) (l : List S51) (w : World) (e : Ending) (w' : World) : Prop :=
  Below w.heap.size w w' ∧ ((vT next l = false ∧ e = .returned (.pointer none)) ∨ (vT next l = true ∧ ∃ bk m1 m2 E, e = .returned (.pointer (some ⟨bk, 0, none⟩)) ∧ E.map (·.2) = l ∧ Book w' w.heap.size bk m1 m2 next E))
theorem bookNo {next : Int} {l : List S51} {w w' : World} {e : Ending} (hv : vT next l = false) (he : e = .returned (.pointer none)) (hb : Below w.heap.size w w') : BookPost next l w e w' := ⟨hb, Or.inl ⟨hv, he⟩⟩
set_option maxHeartbeats 4000000 in
set_option maxRecDepth 100000 in
theorem book_calls (next : Int) (A : Option Addr) (c : Nat) (l : List S51) (w : World) (hr : Kd.C k51 w A l.length l) (hc : l.length ≤ c) :
    Calls Try.prog 33 #[.agg #[.int .i64 next, .slice A l.length c]] w (BookPost next l w) := by
  have HR := Aside0.mk hr
  have HC := Aside0.mk hc
  clear hr hc
  have hu29 := Try.underlying29
  have hu51 := Try.underlying51
  have hu61 := Try.underlying61
  have hmm := @run_makeMap Try.prog
  have HB := Aside0.mk (Below.refl w.heap.size w)
  go_enter Try.func33, Try.ntmps33
  go_wp2_with fail
  refine (goodNumber_any next _).mono ?_
  rintro e w1 ⟨rfl, rfl⟩
  by_cases c1 : gNx next = true
  case neg =>
    have c1' : gNx next = false := by simpa using c1
    have HV := Aside0.mk (show vT next l = false by cases hv : vT next l; rfl; exact absurd (show gNx next = true by unfold gNx; rw [decide_eq_true (vT_facts hv).1, decide_eq_true (vT_facts hv).2.1]; rfl) c1)
    rw [c1']
    clear c1 c1'
    go_wp2_with fail
    go_ret
    exact bookNo HV.out rfl (below_alloc HB.out _)
  have C1 := Aside0.mk c1
  rw [c1]
  clear c1
  by_cases c3 : (1200 : Int) < (l.length : Int)
  case pos =>
    have HV := Aside0.mk (show vT next l = false by cases hv : vT next l; rfl; have := (vT_facts hv).2.2.1; omega)
    go_wp2_with fail
    go_ret
    exact bookNo HV.out rfl (below_alloc HB.out _)
  have C3 := Aside0.mk (show l.length ≤ 1200 by omega)
  have HV := Aside0.mk (show vT next l = vFrom next l 0 l.length by
    have := C1.out
    unfold gNx at this
    unfold vT
    rw [this, decide_eq_true C3.out]; rfl)
  have c3b : decide ((1200 : Int) < (l.length : Int)) = false := decide_eq_false c3
  clear c3
  go_wp2_with fail
  go_loopg [25] l.length (fun kq v25 w' => ∃ (i : Nat) (E : List (Nat × S51)), v25 = .int .i64 i ∧ Aside0 (i ≤ l.length ∧ kq = l.length - i) ∧ Aside0 (vT next l = vFrom next l i (l.length - i)) ∧ Aside0 (E.map (·.2) = l.take i ∧ ∀ x, x < i → tOrd l x = true) ∧ Aside0 (w'.heap[w.heap.size]? = some (.cells #[.int .i64 next, .slice A l.length c] 29 (0, 0))) ∧ Aside0 (Book w' w.heap.size (w.heap.size + 1 + 1 + 1) (w.heap.size + 1) (w.heap.size + 1 + 1) next E) ∧ Aside0 (Below w.heap.size w w'))
  case atStart =>
    refine ⟨0, [], rfl, ⟨by omega, rfl⟩, ⟨HV.out⟩, ⟨rfl, fun x hx => by omega⟩, ⟨blk_alloc (blk_alloc (blk_alloc (blk_new _ _) _) _) _⟩, ⟨?_⟩, ⟨below_alloc (below_alloc (below_alloc (below_alloc HB.out _) _) _) _⟩⟩
    refine ⟨by omega, by omega, by omega, by omega, by simp, ?_, fun p hp => by simp at hp, ?_, ?_⟩
    · have h := blk_new (((w.alloc (.cells #[.int .i64 next, .slice A l.length c] 29)).alloc (.map #[] 0)).alloc (.map #[] 0)) (.cells #[.int .i64 next, .map (some (w.heap.size + 1)), .map (some (w.heap.size + 1 + 1))] 61)
      simpa using h
    · have h := MapOf.made (w.alloc (.cells #[.int .i64 next, .slice A l.length c] 29)) Try.prog 9
      rw [World.size_alloc] at h
      exact (h.alloc _).alloc _
    · have h := MapOf.made ((w.alloc (.cells #[.int .i64 next, .slice A l.length c] 29)).alloc (.map #[] 0)) Try.prog 2
      rw [World.size_alloc, World.size_alloc] at h
      exact h.alloc _
  case round =>
    clear HB HV
    obtain ⟨i, E, rfl, HI, HV, HE, K1, HBk, HB⟩ := hrel
    have z0 : wr.cell? ⟨w.heap.size, 0, none⟩ = some (.int .i64 next) := (blk_cell K1.out 0).trans rfl
    have z1 : wr.cell? ⟨w.heap.size, 1, none⟩ = some (.slice A l.length c) := (blk_cell K1.out 1).trans rfl
    have yl := blk_lt K1.out
    by_cases ci : (i : Int) < (l.length : Int)
    case neg =>
      have hi : i = l.length := by have := HI.out; omega
      have HV2 := Aside0.mk (show vT next l = true by rw [HV.out, hi, Nat.sub_self]; rfl)
      have HE2 := Aside0.mk (show E.map (·.2) = l by rw [HE.out.1, hi, List.take_length])
      clear hi
      go_wp2_with fail
      go_ret
      exact ⟨HB.out, Or.inr ⟨HV2.out, _, _, _, E, rfl, HE2.out, HBk.out⟩⟩
    have hl : l.length ≤ 1200 := C3.out
    obtain ⟨ad, e_, hx0, hx1, hx2⟩ := at_T51 (Kd.C_below HR.out HB.out) (i : Int) (by omega) (by omega)
    subst e_
    rw [gT_rd, Int.toNat_natCast] at hx0 hx1 hx2
    have HVs := Aside0.mk (show vT next l = (tPre next l i && noId l (gT l i).f0 0 i && vFrom next l (i + 1) (l.length - (i + 1))) by rw [HV.out, show l.length - i = (l.length - (i + 1)) + 1 by omega]; rfl)
    clear HV
    go_wp2_with fail
    have N_K1 := Aside0.mk (blk_alloc K1.out (.cells #[.int .i64 (gT l i).f0, .string (gT l i).f1, .int .i64 (gT l i).f2] 51))
    have N_HB := Aside0.mk (below_alloc HB.out (.cells #[.int .i64 (gT l i).f0, .string (gT l i).f1, .int .i64 (gT l i).f2] 51))
    have N_BK := Aside0.mk (Book.alloc HBk.out (.cells #[.int .i64 (gT l i).f0, .string (gT l i).f1, .int .i64 (gT l i).f2] 51))
    have KT := Aside0.mk (blk_new wr (.cells #[.int .i64 (gT l i).f0, .string (gT l i).f1, .int .i64 (gT l i).f2] 51))
    have HG := Aside0.mk (show w.heap.size ≤ wr.heap.size ∧ ∀ p ∈ E, p.1 ≠ wr.heap.size from ⟨HB.out.size, fun p hp => Nat.ne_of_lt (blk_lt (HBk.out.2.2.2.2.2.2.1 p hp).2)⟩)
    generalize wr.alloc (.cells #[.int .i64 (gT l i).f0, .string (gT l i).f1, .int .i64 (gT l i).f2] 51) = ww at *
    generalize wr.heap.size = g at *
    clear K1 HB hx0 hx1 hx2 z0 z1 yl HBk
    have z0 : ww.cell? ⟨w.heap.size, 0, none⟩ = some (.int .i64 next) := (blk_cell N_K1.out 0).trans rfl
    have z1 : ww.cell? ⟨w.heap.size, 1, none⟩ = some (.slice (some ad) l.length c) := (blk_cell N_K1.out 1).trans rfl
    have t0 : ww.cell? ⟨g, 0, none⟩ = some (.int .i64 (gT l i).f0) := (blk_cell KT.out 0).trans rfl
    have t1 : ww.cell? ⟨g, 1, none⟩ = some (.string (gT l i).f1) := (blk_cell KT.out 1).trans rfl
    have t2 : ww.cell? ⟨g, 2, none⟩ = some (.int .i64 (gT l i).f2) := (blk_cell KT.out 2).trans rfl
    have yl := blk_lt N_K1.out
    have tl := blk_lt KT.out
    have b2 : ww.cell? ⟨w.heap.size + 1 + 1 + 1, 2, none⟩ = some (.map (some (w.heap.size + 1 + 1))) := (blk_cell N_BK.out.2.2.2.2.2.1 2).trans rfl
    have b1 : ww.cell? ⟨w.heap.size + 1 + 1 + 1, 1, none⟩ = some (.map (some (w.heap.size + 1))) := (blk_cell N_BK.out.2.2.2.2.2.1 1).trans rfl
    have FIN := Aside0.mk (show ∀ n : Nat, Below w.heap.size w (ww.drewN n) from fun n => pw_below_drewN N_HB.out n)
    by_cases d1 : gTx (gT l i).f1 = true
    case neg =>
      have d1b : gTx (gT l i).f1 = false := by simpa using d1
      have HVf := Aside0.mk (show vT next l = false by rw [HVs.out, show tPre next l i = false by cases h : tPre next l i; rfl; exact absurd (show gTx (gT l i).f1 = true by unfold gTx; rw [decide_eq_true ((tPre_cases _ _ _).1 h).1, decide_eq_true ((tPre_cases _ _ _).1 h).2.1]; rfl) d1]; rfl)
      clear d1
      go_quiet ((go_at_call 48; exact Calls.quiet_of_same (goodText_any _ _)))
      go_wp2_with fail
      go_ret
      exact bookNo HVf.out rfl (FIN.out _)
    by_cases d3 : (gT l i).f0 < 1
    case pos =>
      have HVf := Aside0.mk (show vT next l = false by rw [HVs.out, show tPre next l i = false by cases h : tPre next l i; rfl; exact absurd ((tPre_cases _ _ _).1 h).2.2.1 (by omega)]; rfl)
      go_quiet ((go_at_call 48; exact Calls.quiet_of_same (goodText_any _ _)))
      go_wp2_with fail
      go_ret
      exact bookNo HVf.out rfl (FIN.out _)
    by_cases d4 : next ≤ (gT l i).f0
    case pos =>
      have HVf := Aside0.mk (show vT next l = false by rw [HVs.out, show tPre next l i = false by cases h : tPre next l i; rfl; exact absurd ((tPre_cases _ _ _).1 h).2.2.2.1 (by omega)]; rfl)
      go_quiet ((go_at_call 48; exact Calls.quiet_of_same (goodText_any _ _)))
      go_wp2_with fail
      go_ret
      exact bookNo HVf.out rfl (FIN.out _)
    by_cases d5 : (gT l i).f2 < 1
    case pos =>
      have HVf := Aside0.mk (show vT next l = false by rw [HVs.out, show tPre next l i = false by cases h : tPre next l i; rfl; exact absurd ((tPre_cases _ _ _).1 h).2.2.2.2.1 (by omega)]; rfl)
      go_quiet ((go_at_call 48; exact Calls.quiet_of_same (goodText_any _ _)))
      go_wp2_with fail
      go_ret
      exact bookNo HVf.out rfl (FIN.out _)
    by_cases d6 : 2000000000 < (gT l i).f2
    case pos =>
      have HVf := Aside0.mk (show vT next l = false by rw [HVs.out, show tPre next l i = false by cases h : tPre next l i; rfl; exact absurd ((tPre_cases _ _ _).1 h).2.2.2.2.2.1 (by omega)]; rfl)
      go_quiet ((go_at_call 48; exact Calls.quiet_of_same (goodText_any _ _)))
      go_wp2_with fail
      go_ret
      exact bookNo HVf.out rfl (FIN.out _)
    have HP := Aside0.mk (show tPre next l i = tOrd l i ∧ (gT l i).f1.size ≤ 30 by
      unfold gTx at d1
      simp only [Bool.and_eq_true, decide_eq_true_eq] at d1
      refine ⟨?_, by omega⟩
      unfold tPre
      rw [decide_eq_true d1.1, decide_eq_true d1.2, decide_eq_true (show 1 ≤ (gT l i).f0 by omega), decide_eq_true (show (gT l i).f0 < next by omega), decide_eq_true (show 1 ≤ (gT l i).f2 by omega), decide_eq_true (show (gT l i).f2 ≤ 2000000000 by omega)]
      rfl)
    have HJ := Aside0.mk (show ∀ b : Bool, tOrd l i = b → tPre next l i = b from fun b hb => HP.out.1.trans hb)
    have HLK := Aside0.mk (show ∀ n : Nat, (Instr.lookup 59 (.map (some (w.heap.size + 1 + 1))) (.int .i64 (gT l i).f0) false).run Try.prog (ww.drewN n) = .ok (ptrV (fE kI E (kI (gT l i)))) (ww.drewN n) from fun n => MapOf.look (show MapOf Try.prog (ww.drewN n) 2 (w.heap.size + 1 + 1) (fE kI E) E.length from N_BK.out.2.2.2.2.2.2.2.2) lawI Try.underlying59 (zeroTerm _) (keyI _ (by have := C1.out; unfold gNx at this; simp at this; omega) (by have := C1.out; unfold gNx at this; simp at this; omega)))
    by_cases ip : (0 : Int) < (i : Int)
    case' pos =>
      obtain ⟨ad', e2_, hx0, hx1, hx2⟩ := at_T51 (Kd.C_below HR.out N_HB.out) ((i - 1 : Nat) : Int) (by omega) (by omega)
      cases e2_
      rw [gT_rd, Int.toNat_natCast] at hx0 hx1 hx2
      have HO := Aside0.mk (show tOrd l i = Op.bytesLess (gT l (i - 1)).f1.toList (gT l i).f1.toList by unfold tOrd; rw [decide_eq_false (by omega), Bool.false_or])
      have ipn : 0 < i := by omega
      have ipb : decide ((0 : Int) < (i : Int)) = true := decide_eq_true ip
      have ipc : decide (0 < i) = true := decide_eq_true ipn
      have s1 : IntKind.i64.wrap ((i : Int) - 1) = (i : Int) - 1 := by rw [i64_w]; unfold wrap64; omega
      have s2 : 1 ≤ (i : Int) := by omega
      have s3 : ((i : Int) - 1).toNat = i - 1 := by omega
      have s4 : (i : Int) - 1 < (l.length : Int) := by omega
      cases hb : Op.bytesLess (gT l (i - 1)).f1.toList (gT l i).f1.toList
      case' false =>
        have HVf := Aside0.mk (show vT next l = false by rw [HVs.out, HJ.out false (HO.out.trans hb)]; rfl)
        go_quiet ((go_at_call 48; exact Calls.quiet_of_same (goodText_any _ _)))
        go_wp2_with fail
        go_ret
        exact bookNo HVf.out rfl (FIN.out _)
      case' true =>
        have HOK := Aside0.mk (show tOrd l i = true from HO.out.trans hb)
    case' neg =>
      have HOK := Aside0.mk (show tOrd l i = true by unfold tOrd; rw [decide_eq_true (by omega), Bool.true_or])
      have ib : decide ((0 : Int) < (i : Int)) = false := decide_eq_false ip
      have ic : decide (0 < i) = false := decide_eq_false (by omega)
    all_goals
      have HVt := Aside0.mk (show vT next l = (noId l (gT l i).f0 0 i && vFrom next l (i + 1) (l.length - (i + 1))) by rw [HVs.out, HJ.out true HOK.out, Bool.true_and])
      have HID := Aside0.mk (fresh_id HE.out.1 (by omega))
      have hlk := HLK.out
      cases hid : fE kI E (kI (gT l i))
      case' some =>
        have HVf := Aside0.mk (show vT next l = false by rw [HVt.out]; cases hn : noId l (gT l i).f0 0 i; rfl; have := HID.out.2 hn; rw [hid] at this; cases this)
        rw [hid] at hlk
        clear hid HID HLK
        simp only [ptrV] at hlk
        go_quiet ((go_at_call 48; exact Calls.quiet_of_same (goodText_any _ _)))
        go_wp2_with fail
        go_ret
        exact bookNo HVf.out rfl (FIN.out _)
      case' none =>
        have HVn := Aside0.mk (show vT next l = vFrom next l (i + 1) (l.length - (i + 1)) by rw [HVt.out, HID.out.1 hid, Bool.true_and])
        have HFI := Aside0.mk hid
        rw [hid] at hlk
        clear hid HID HLK HVt HVs
        simp only [ptrV] at hlk
        go_quiet ((go_at_call 48; exact Calls.quiet_of_same (goodText_any _ _)))
        go_wp2_with fail
        have R_K1 := Aside0.mk (show (ww.drewN nq).heap[w.heap.size]? = some (.cells #[.int .i64 next, .slice (some ad) l.length c] 29 (0, 0)) from N_K1.out)
        have R_BK := Aside0.mk (show Book (ww.drewN nq) w.heap.size (w.heap.size + 1 + 1 + 1) (w.heap.size + 1) (w.heap.size + 1 + 1) next E from N_BK.out)
        have R_KT := Aside0.mk (show (ww.drewN nq).heap[g]? = some (.cells #[.int .i64 (gT l i).f0, .string (gT l i).f1, .int .i64 (gT l i).f2] 51 (0, 0)) from KT.out)
        have R_HB := Aside0.mk (FIN.out nq)
        clear hlk FIN N_K1 N_BK N_HB KT z0 z1 t0 t1 t2 yl tl b1 b2
        generalize ww.drewN nq = W2 at *
        have t0 : W2.cell? ⟨g, 0, none⟩ = some (.int .i64 (gT l i).f0) := (blk_cell R_KT.out 0).trans rfl
        have t1 : W2.cell? ⟨g, 1, none⟩ = some (.string (gT l i).f1) := (blk_cell R_KT.out 1).trans rfl
        have tl := blk_lt R_KT.out
        have yl := blk_lt R_K1.out
        have b2 : W2.cell? ⟨w.heap.size + 1 + 1 + 1, 2, none⟩ = some (.map (some (w.heap.size + 1 + 1))) := (blk_cell R_BK.out.2.2.2.2.2.1 2).trans rfl
        have b1 : W2.cell? ⟨w.heap.size + 1 + 1 + 1, 1, none⟩ = some (.map (some (w.heap.size + 1))) := (blk_cell R_BK.out.2.2.2.2.2.1 1).trans rfl
        have hsz : (gT l i).f1.size ≤ maxLen := by have := HP.out.2; unfold maxLen; omega
        have hFS := fresh_text HE.out.1 (fun x hx => (Nat.lt_or_ge x i).elim (fun h => HE.out.2 x h) (fun h => by
          obtain rfl : x = i := by omega
          exact HOK.out))
        have hEl : E.length < maxLen := by have h := congrArg List.length HE.out.1; simp at h; unfold maxLen; omega
        obtain ⟨st1, wa, wb, hA, hB, oS, tS, _⟩ := MapOf.entry (show MapOf Try.prog W2.drew 9 (w.heap.size + 1) (fE kS E) E.length from R_BK.out.2.2.2.2.2.2.2.1) lawS Try.underlying58 zeroTerm hEl (keyS (gT l i).f1 hsz) hFS g
        have N2 := MapOf.kept (show MapOf Try.prog W2.drew 2 (w.heap.size + 1 + 1) (fE kI E) E.length from R_BK.out.2.2.2.2.2.2.2.2) tS.grown (by simp)
        obtain ⟨st2, wc, wd, hC, hD, oI, tI, _⟩ := MapOf.entry N2 lawI Try.underlying59 zeroTerm hEl (keyI (gT l i).f0 (by have := C1.out; unfold gNx at this; simp at this; omega) (by have := C1.out; unfold gNx at this; simp at this; omega)) HFI.out g
        have HA := Aside0.mk hA
        have HBs := Aside0.mk hB
        have HCs := Aside0.mk hC
        have HD := Aside0.mk hD
        have OS := Aside0.mk oS
        have TS := Aside0.mk tS
        have OI := Aside0.mk oI
        have TI := Aside0.mk tI
        have HFS := Aside0.mk hFS
        clear hA hB hC hD oS tS oI tI hFS hEl hsz N2
        refine wp_region_still_tail 12 (by kernel_rfl) (by kernel_rfl) ?_
        simp only [List.take_succ_cons, List.take_zero, List.drop_succ_cons, List.drop_zero]
        repeat still_step
        refine wpStill_nil ?_
        refine list_val rfl (exec_mapEntry _ _ _ rfl rfl rfl HA.out) ?_
        refine list_val rfl (exec_extract _ _ rfl rfl rfl) ?_
        refine list_skip rfl (exec_entryStore _ _ _ _ rfl rfl rfl rfl HBs.out) ?_
        refine list_val rfl (exec_mapEntry _ _ _ rfl rfl rfl HCs.out) ?_
        refine list_val rfl (exec_extract _ _ rfl rfl rfl) ?_
        refine list_skip rfl (exec_entryStore _ _ _ _ rfl rfl rfl rfl HD.out) ?_
        go_wp2_with fail
        go_roundg (l.length - (i + 1))
        case measure => have := HI.out; omega
        case rel =>
          have hpush := Book.push (w := W2.drew) (g := g) (t := gT l i) R_BK.out HG.out.1 HG.out.2 R_KT.out HFS.out HFI.out TS.out OS.out TI.out OI.out
          have hE2 : (E ++ [(g, gT l i)]).map (·.2) = l.take (i + 1) := by
            rw [List.map_append, HE.out.1, List.take_succ_eq_append_getElem (by omega), gT_at l i (by omega)]; rfl
          have hord : ∀ x, x < i + 1 → tOrd l x = true := fun x hx => (Nat.lt_or_ge x i).elim (fun h => HE.out.2 x h) (fun h => by
            obtain rfl : x = i := by omega
            exact HOK.out)
          obtain ⟨e1, c1_, hm1⟩ := MapOf.isMapObj R_BK.out.2.2.2.2.2.2.2.1
          have hk1 : wd.heap[w.heap.size]? = some (.cells #[.int .i64 next, .slice (some ad) l.length c] 29 (0, 0)) := by
            have a1 := TS.out.grown.block w.heap.size (show w.heap.size < W2.heap.size from yl) (by simp)
            have a2 := TI.out.grown.block w.heap.size (Nat.lt_of_lt_of_le (show w.heap.size < W2.heap.size from yl) TS.out.grown.size) (by simp; omega)
            exact (a2.trans a1).trans R_K1.out
          have hbel : Below w.heap.size w wd := by
            have b0 : Below w.heap.size w W2.drew := below_drew R_HB.out
            have b1 := pw_below_grown b0 (some (w.heap.size + 1)) b0.size TS.out.grown (fun k hk => by simp at hk; omega)
            exact pw_below_grown b1 (some (w.heap.size + 1 + 1)) b1.size TI.out.grown (fun k hk => by simp at hk; omega)
          exact ⟨i + 1, E ++ [(g, gT l i)], by first | rfl | simp, ⟨by omega, rfl⟩, ⟨HVn.out⟩, ⟨hE2, hord⟩, ⟨hk1⟩, ⟨hpush⟩, ⟨hbel⟩⟩

/-! ### L_sort: a text by hand -/
-- import Derived.Shelf.SlSortCmp.NoneTotal
def sortTerm_ren : Go.Shelf.Ren := ⟨fun | 6 => 51 | 15 => 57 | 14 => 56 | 28 => 67 | 29 => 68 | 20 => 59 | 21 => 60 | 22 => 61 | 23 => 62 | 24 => 63 | 25 => 64 | 26 => 65 | 27 => 66 | 46 => 69 | 47 => 70 | 48 => 71 | 49 => 72 | 50 => 73 | 57 => 74 | n => n, fun | 22 => 27 | 24 => 51 | 25 => 74 | 3 => 3 | 39 => 78 | 0 => 0 | 53 => 88 | 55 => 90 | 4 => 4 | 46 => 81 | 45 => 80 | 50 => 85 | 5 => 5 | 9 => 9 | 66 => 91 | 70 => 95 | 76 => 97 | 77 => 98 | n => n, fun | n => n⟩
theorem sortTerm : Go.Proofs.SlLaysF0.n6 Try.prog sortTerm_ren := {
  mixed := by kernel_rfl
  f6 := ⟨Try.f51.name, by decide, Try.func51.trans (congrArg some (by kernel_rfl))⟩
  f14 := ⟨Try.f56.name, by decide, Try.func56.trans (congrArg some (by kernel_rfl))⟩
  f15 := Try.func57.trans (congrArg some (by kernel_rfl))
  f20 := ⟨Try.f59.name, by decide, Try.func59.trans (congrArg some (by kernel_rfl))⟩
  f21 := ⟨Try.f60.name, by decide, Try.func60.trans (congrArg some (by kernel_rfl))⟩
  f22 := ⟨Try.f61.name, by decide, Try.func61.trans (congrArg some (by kernel_rfl))⟩
  f23 := ⟨Try.f62.name, by decide, Try.func62.trans (congrArg some (by kernel_rfl))⟩
  f24 := ⟨Try.f63.name, by decide, Try.func63.trans (congrArg some (by kernel_rfl))⟩
  f25 := ⟨Try.f64.name, by decide, Try.func64.trans (congrArg some (by kernel_rfl))⟩
  f26 := ⟨Try.f65.name, by decide, Try.func65.trans (congrArg some (by kernel_rfl))⟩
  f27 := ⟨Try.f66.name, by decide, Try.func66.trans (congrArg some (by kernel_rfl))⟩
  f28 := Try.func67.trans (congrArg some (by kernel_rfl))
  f29 := Try.func68.trans (congrArg some (by kernel_rfl))
  f46 := ⟨Try.f69.name, by decide, Try.func69.trans (congrArg some (by kernel_rfl))⟩
  f47 := Try.func70.trans (congrArg some (by kernel_rfl))
  f48 := Try.func71.trans (congrArg some (by kernel_rfl))
  f49 := ⟨Try.f72.name, by decide, Try.func72.trans (congrArg some (by kernel_rfl))⟩
  f50 := ⟨Try.f73.name, by decide, Try.func73.trans (congrArg some (by kernel_rfl))⟩
  f57 := ⟨Try.f74.name, by decide, Try.func74.trans (congrArg some (by kernel_rfl))⟩
  t0 := Try.underlying0
  a0 := Try.isAgg0
  z0 := Try.sizeOf0
  v0 := Try.zeroValue0
  t3 := Try.underlying3
  a3 := Try.isAgg3
  z3 := Try.sizeOf3
  v3 := Try.zeroValue3
  t4 := Try.underlying4
  a4 := Try.isAgg4
  z4 := Try.sizeOf4
  v4 := Try.zeroValue4
  t5 := Try.underlying5
  a5 := Try.isAgg5
  z5 := Try.sizeOf5
  v5 := Try.zeroValue5
  t9 := Try.underlying9
  a9 := Try.isAgg9
  z9 := Try.sizeOf9
  v9 := Try.zeroValue9
  t22 := Try.underlying27
  a22 := Try.isAgg27
  z22 := Try.sizeOf27
  v22 := Try.zeroValue27
  t25 := Try.underlying74
  a25 := Try.isAgg74
  z25 := Try.sizeOf74
  v25 := Try.zeroValue74
  t39 := Try.underlying78
  a39 := Try.isAgg78
  z39 := Try.sizeOf78
  v39 := Try.zeroValue78
  t45 := Try.underlying80
  a45 := Try.isAgg80
  z45 := Try.sizeOf80
  v45 := Try.zeroValue80
  t46 := Try.underlying81
  a46 := Try.isAgg81
  z46 := Try.sizeOf81
  v46 := Try.zeroValue81
  t50 := Try.underlying85
  a50 := Try.isAgg85
  z50 := Try.sizeOf85
  v50 := Try.zeroValue85
  t53 := Try.underlying88
  a53 := Try.isAgg88
  z53 := Try.sizeOf88
  v53 := Try.zeroValue88
  t55 := Try.underlying90
  a55 := Try.isAgg90
  z55 := Try.sizeOf90
  v55 := Try.zeroValue90
  t66 := Try.underlying91
  a66 := Try.isAgg91
  z66 := Try.sizeOf91
  v66 := Try.zeroValue91
  t70 := Try.underlying95
  a70 := Try.isAgg95
  z70 := Try.sizeOf95
  v70 := Try.zeroValue95
  t76 := Try.underlying97
  a76 := Try.isAgg97
  z76 := Try.sizeOf97
  v76 := Try.zeroValue97
  t77 := Try.underlying98
  a77 := Try.isAgg98
  z77 := Try.sizeOf98
  v77 := Try.zeroValue98 }

/-! ### impl_sort: a text by hand -/
-- import Derived.Shelf.SlSortCmp.NoneTotal
-- import Derived.WalkLawsBesides
def cmpS (a b : ByteArray) : Int := if a.toList < b.toList then -1 else if b.toList < a.toList then 1 else 0
theorem isNaN_any (s : ByteArray) (w : World) : Calls Try.prog 58 #[.string s] w fun e w' => e = .returned (.bool false) ∧ w' = w := by
  go_enter Try.func58, Try.ntmps58
  go_wp2
  go_ret
  exact ⟨by simp, rfl⟩
theorem cmpS_any (a b : ByteArray) (w : World) : Calls Try.prog 53 #[.string a, .string b] w fun e w' => e = .returned (.int .i64 (cmpS a b)) ∧ w' = w := by
  by_cases c1 : a.toList < b.toList
  · have e1 : Op.bytesLess a.toList b.toList = true := by rw [bless_eq, decide_eq_true c1]
    have E := Aside0.mk (show cmpS a b = -1 by unfold cmpS; rw [if_pos c1])
    clear c1
    go_enter Try.func53, Try.ntmps53
    go_wp2_with (go_at_call 58; refine (isNaN_any _ _).mono ?_; rintro e w' ⟨rfl, rfl⟩)
    go_ret
    exact ⟨by rw [E.out]; rfl, rfl⟩
  · have e1 : Op.bytesLess a.toList b.toList = false := by rw [bless_eq, decide_eq_false c1]
    by_cases c2 : b.toList < a.toList
    · have e2 : (a.toList == b.toList) = false := beq_eq_false_iff_ne.2 (fun h => by rw [h] at c2; exact List.lt_irrefl _ c2)
      have E := Aside0.mk (show cmpS a b = 1 by unfold cmpS; rw [if_neg c1, if_pos c2])
      clear c1 c2
      go_enter Try.func53, Try.ntmps53
      go_wp2_with (go_at_call 58; refine (isNaN_any _ _).mono ?_; rintro e w' ⟨rfl, rfl⟩)
      go_ret
      exact ⟨by rw [E.out]; rfl, rfl⟩
    · have e2 : (a.toList == b.toList) = true := beq_iff_eq.2 (List.le_antisymm (Std.not_lt.1 c2) (Std.not_lt.1 c1))
      have E := Aside0.mk (show cmpS a b = 0 by unfold cmpS; rw [if_neg c1, if_neg c2])
      clear c1 c2
      go_enter Try.func53, Try.ntmps53
      go_wp2_with (go_at_call 58; refine (isNaN_any _ _).mono ?_; rintro e w' ⟨rfl, rfl⟩)
      go_ret
      exact ⟨by rw [E.out]; rfl, rfl⟩
instance : Inhabited S51 := ⟨z51⟩
def encT (x : S51) : List Value := [.int .i64 x.f0, .string x.f1, .int .i64 x.f2]
def cmpT (x y : S51) : Int := cmpS x.f1 y.f1
theorem clos_sort (x y : S51) (W : World) : Calls Try.prog 52 #[.agg #[.int .i64 x.f0, .string x.f1, .int .i64 x.f2], .agg #[.int .i64 y.f0, .string y.f1, .int .i64 y.f2]] W fun e w' => e = .returned (.int .i64 (cmpT x y)) ∧ ∃ q os', w' = Go.Sort.grow (W.drewN q) os' := by
  have hu51 := Try.underlying51
  go_enter Try.func52, Try.ntmps52
  go_wp2_with (go_at_call 53; refine (cmpS_any _ _ _).mono ?_; rintro e w' ⟨rfl, rfl⟩)
  go_ret
  exact ⟨rfl, 0, _, by rw [Go.Sort.alloc_eq_grow, Go.Sort.alloc_eq_grow, Go.Sort.grow_grow]; rfl⟩
theorem cmpS_lt (x y : ByteArray) : decide (cmpS x y < 0) = decide (x.toList < y.toList) := by
  unfold cmpS
  by_cases h : x.toList < y.toList
  · rw [if_pos h, decide_eq_true h]; rfl
  · rw [if_neg h, decide_eq_false h]
    by_cases h2 : y.toList < x.toList
    · rw [if_pos h2]; rfl
    · rw [if_neg h2]; rfl
theorem ltT (x y : S51) : ltOf cmpT x y = decide (x.f1.toList < y.f1.toList) := by
  unfold ltOf cmpT
  exact cmpS_lt _ _
theorem swoT : Go.Sort.SWO (ltOf cmpT) where
  irrefl x := by rw [ltT]; exact decide_eq_false (List.lt_irrefl _)
  trans x y z h1 h2 := by
    rw [ltT] at *
    exact decide_eq_true (List.lt_trans (of_decide_eq_true h1) (of_decide_eq_true h2))
  ntrans x y z h1 h2 := by
    rw [ltT] at *
    exact decide_eq_false (fun h => (of_decide_eq_false h2) (by
      by_cases c : x.f1.toList < y.f1.toList
      · exact absurd c (of_decide_eq_false h1)
      · exact Std.lt_of_le_of_lt (Std.not_lt.1 (of_decide_eq_false h1)) h))

/-! ### L_sortR: a text by hand -/
-- import Derived.Shelf.SlSortCmp.NoneTotal
open Go.Sort in
theorem flatT_get (xs : List S51) (j i : Nat) (hj : j < xs.length) (hi : i < 3) : (flatK encT 3 xs.toArray)[j * 3 + i]? = (encT xs[j])[i]? := by
  have hs : j * 3 + i < xs.length * 3 := by omega
  have h1 : (j * 3 + i) / 3 = j := by omega
  have h2 : (j * 3 + i) % 3 = i := by omega
  unfold flatK
  rw [Array.getElem?_map, Array.getElem?_range, if_pos (by simpa using hs), Option.map_some, h1, h2]
  rw [getElem!_pos xs.toArray j (by simpa using hj)]
  have hl : i < (encT xs[j]).length := hi
  rw [List.getElem?_eq_getElem hl]
  simp only [List.getElem_toArray]
  rw [getElem!_pos (encT xs[j]) i hl]
theorem repsT_inner {w : World} {base : Nat} {ok : Nat → Prop} {xs : List S51} {inner : List Value} (h : Reps (k51.M w base ok) 3 xs inner) (j i : Nat) (hj : j < xs.length) (hi : i < 3) : inner[j * 3 + i]? = (encT xs[j])[i]? := by
  have h1 := k51_openM (h.2 j xs[j] (List.getElem?_eq_getElem hj))
  have h2 : ((inner.drop (j * 3)).take 3)[i]? = (encT xs[j])[i]? := by rw [h1]; rfl
  rwa [List.getElem?_take_of_lt hi, List.getElem?_drop] at h2
open Go.Sort in
theorem repsT_eq {w : World} {base : Nat} {ok : Nat → Prop} {xs : List S51} {inner : List Value} (h : Reps (k51.M w base ok) 3 xs inner) : inner = (flatK encT 3 xs.toArray).toList := by
  apply List.ext_getElem?
  intro t
  have hlen := h.1
  rcases Nat.lt_or_ge t (xs.length * 3) with ht | ht
  · have e : t = (t / 3) * 3 + t % 3 := by omega
    have hj : t / 3 < xs.length := by omega
    rw [e, repsT_inner h (t / 3) (t % 3) hj (by omega)]
    exact (flatT_get xs (t / 3) (t % 3) hj (by omega)).symm.trans (Array.getElem?_toList).symm
  · rw [List.getElem?_eq_none (by omega), List.getElem?_eq_none (by simp; omega)]
open Go.Sort in
theorem repsT_of (w : World) (base : Nat) (ok : Nat → Prop) (xs : List S51) : Reps (k51.M w base ok) 3 xs (flatK encT 3 xs.toArray).toList := by
  refine ⟨by simp, fun j p hp => ?_⟩
  obtain ⟨hj, rfl⟩ := List.getElem?_eq_some_iff.1 hp
  have e : (((flatK encT 3 xs.toArray).toList.drop (j * 3)).take 3) = encT xs[j] := by
    apply List.ext_getElem?
    intro i
    rcases Nat.lt_or_ge i 3 with hi | hi
    · rw [List.getElem?_take_of_lt hi, List.getElem?_drop, Array.getElem?_toList, flatT_get _ _ _ hj hi]
    · rw [List.getElem?_take_eq_none hi, List.getElem?_eq_none (show (encT xs[j]).length ≤ i from hi)]
  rw [e]
  exact k51_mkM _ _ _ _
theorem rT_form {w : World} {base : Nat} {ok : Nat → Prop} {g n cap : Nat} {xs : List S51} (h : Kd.R k51 51 w base ok (.slice (some ⟨g, 0, none⟩) n cap) xs) :
    ∃ cur, base ≤ g ∧ w.heap[g]? = some (.cells cur 51 (0, 0)) ∧ n = xs.length ∧ n ≤ cap ∧ cap ≤ maxLen ∧ cur.size = cap * 3 ∧ cur.toList.take (n * 3) = (Go.Sort.flatK encT 3 xs.toArray).toList := by
  obtain ⟨_, inner, ho, hr⟩ := h
  have hi := repsT_eq hr
  rcases ho.2 with ⟨he, _⟩ | ⟨g', cap', cur, he, hb, hh, h1, h2, h3, h4⟩
  · cases he
  · injection he with e1 e2 e3
    injection e1 with e1
    injection e1 with e1 _ _
    subst e1 e2 e3
    exact ⟨cur, hb, hh, rfl, h1, h2, h3, h4.trans hi⟩
open Go.Sort in
theorem rT_holds {w : World} {base : Nat} {ok : Nat → Prop} {g n cap : Nat} {xs : List S51} (h : Kd.R k51 51 w base ok (.slice (some ⟨g, 0, none⟩) n cap) xs) : HoldsK encT 3 w g 0 xs.toArray := by
  obtain ⟨cur, hb, hh, hn, h1, h2, h3, h4⟩ := rT_form h
  intro j hj
  have hj' : j < n * 3 := by rw [size_flatK] at hj; simp at hj; omega
  refine ⟨?_, by simp [World.frozen?, hh]⟩
  rw [blk_cell hh, Nat.zero_add]
  have e := congrArg (fun l : List Value => l[j]?) h4
  simp only [List.getElem?_take_of_lt hj', Array.getElem?_toList] at e
  rw [e, getElem!_pos _ j hj, Array.getElem?_eq_getElem hj]
  rfl
open Go.Sort in
theorem heap_sortedK {w : World} {g m : Nat} {os : Array Obj} {cur : Array Value} {e : TypeId} {fr : Nat × Nat} (d : Array S51) (hb : w.heap[g]? = some (.cells cur e fr)) :
    (sortWorldK encT 3 w g 0 m d os).heap[g]? = some (.cells (putCells id 0 (flatK encT 3 d) cur) e fr) := by
  have hg : g < w.heap.size := (Array.getElem?_eq_some_iff.1 hb).1
  unfold sortWorldK putRowK
  rw [heap_grow_old _ _ (by simpa using hg)]
  simp [putRow, mapBlock, Sort.ahead, Array.getElem?_modify, hb, onCells]
open Go.Sort in
theorem grownBy_sortedK {w : World} {g m : Nat} {os : Array Obj} (d : Array S51) : w.grownBy (sortWorldK encT 3 w g 0 m d os) (some g) := by
  unfold sortWorldK putRowK
  refine ⟨rfl, rfl, rfl, by simp, fun k hk hne => ?_⟩
  rw [heap_grow_old _ _ (by simpa using hk)]
  have : g ≠ k := fun e => hne (by rw [e])
  simp [putRow, mapBlock, Sort.ahead, Array.getElem?_modify, this]
open Go.Sort in
theorem rT_sorted {w : World} {base : Nat} {ok : Nat → Prop} {g n cap : Nat} {xs : List S51} (h : Kd.R k51 51 w base ok (.slice (some ⟨g, 0, none⟩) n cap) xs) (ys : List S51) (hl : ys.length = xs.length) (m : Nat) (os : Array Obj) :
    Kd.R k51 51 (sortWorldK encT 3 w g 0 m ys.toArray os) base ok (.slice (some ⟨g, 0, none⟩) n cap) ys := by
  obtain ⟨cur, hb, hh, hn, h1, h2, h3, h4⟩ := rT_form h
  refine ⟨h.1, (flatK encT 3 ys.toArray).toList, ?_, repsT_of _ _ _ _⟩
  refine ⟨by rw [Array.length_toList, size_flatK]; simp; rfl, .inr ⟨g, cap, _, by rw [hn, hl], hb, heap_sortedK _ hh, by omega, h2, by simp [putCells, h3]; rfl, ?_⟩⟩
  have hs : (flatK encT 3 ys.toArray).size = ys.length * 3 := by rw [size_flatK]; simp
  show (List.take (ys.length * 3) _) = _
  apply List.ext_getElem?
  intro j
  by_cases hj : j < ys.length * 3
  · rw [List.getElem?_take_of_lt (show j < ys.length * 3 from hj), Array.getElem?_toList, Array.getElem?_toList]
    rw [Array.getElem?_eq_getElem (show j < (flatK encT 3 ys.toArray).size by rw [hs]; exact hj)]
    unfold putCells
    rw [Array.getElem?_mapIdx, Array.getElem?_eq_getElem (show j < cur.size by rw [h3]; omega)]
    simp only [Option.map_some, Nat.zero_le, Nat.zero_add, true_and, Nat.sub_zero, hs, hj, if_true, id]
    rw [getElem!_pos _ j (by rw [hs]; exact hj)]
  · rw [List.getElem?_take_eq_none (show ys.length * 3 ≤ j by omega), List.getElem?_eq_none (by rw [Array.length_toList, hs]; omega)]

/-! ### impl_dict: a text by hand -/
-- import Derived.Deep.RegionLaw
-- import Derived.Sort.MapsRangeIn
-- import Derived.Sort.OwnSorted
theorem ptrE_form (v : Value) (y : DataW Nat × List MemPlace) (h : ptrE v = some y) : ∃ c : Option Nat, v = ptrV c := by
  unfold ptrE at h
  split at h
  · exact ⟨none, rfl⟩
  · exact ⟨some _, rfl⟩
  · cases h
def leftOk (Rest : List (Nat × S51)) (left : Lit → Bool) : Prop := ∀ kl, left kl = true ↔ ∃ p ∈ Rest, kS p.2 = kl
theorem nodup_inj {α β : Type} (f : α → β) : ∀ (l : List α), (l.map f).Nodup → ∀ a ∈ l, ∀ b ∈ l, f a = f b → a = b
  | [], _, a, ha, _, _, _ => by cases ha
  | x :: r, h, a, ha, b, hb, he => by
    rw [List.map_cons, List.nodup_cons] at h
    rcases List.mem_cons.1 ha with rfl | ha2
    · rcases List.mem_cons.1 hb with rfl | hb
      · rfl
      · exact absurd (he ▸ List.mem_map_of_mem hb) h.1
    · rcases List.mem_cons.1 hb with hb' | hb'
      · subst hb'
        exact absurd (he ▸ List.mem_map_of_mem (f := f) ha2) h.1
      · exact nodup_inj f r h.2 a ha2 b hb' he
theorem fE_nodup {key : S51 → Lit} {E : List (Nat × S51)} (hnd : (E.map (fun p => key p.2)).Nodup) {p : Nat × S51} (hp : p ∈ E) : fE key E (key p.2) = some p.1 := by
  cases h : fE key E (key p.2) with
  | none => exact absurd rfl (fE_none.1 h p hp)
  | some b =>
    obtain ⟨t, hm, ht⟩ := fE_some h
    have := nodup_inj (fun p : Nat × S51 => key p.2) E hnd _ hm _ hp ht
    rw [← this]
theorem left_start {E : List (Nat × S51)} {D : DataW Nat} (h : ∀ kl, D.atKey kl .nil = encP (fE kS E kl) ∧ Maps.has D kl = (fE kS E kl).isSome) : leftOk E (Maps.has D) := by
  intro kl
  rw [(h kl).2]
  cases hf : fE kS E kl with
  | none => simp only [Option.isSome_none, Bool.false_eq_true, false_iff]; rintro ⟨p, hp, hk⟩; exact fE_none.1 hf p hp hk
  | some b => obtain ⟨t, hm, ht⟩ := fE_some hf; simp only [Option.isSome_some, true_iff]; exact ⟨_, hm, ht⟩
theorem left_end {Rest : List (Nat × S51)} {left : Lit → Bool} (h : leftOk Rest left) (h0 : ∀ kl, left kl = false) : Rest = [] := by
  cases Rest with
  | nil => rfl
  | cons p r => have := (h (kS p.2)).2 ⟨p, List.mem_cons_self, rfl⟩; rw [h0] at this; cases this
theorem left_step {E Done Rest : List (Nat × S51)} {left : Lit → Bool} {D : DataW Nat} {kl : Lit} {c : Option Nat} {y : DataW Nat × List MemPlace} (HL : leftOk Rest left) (hperm : (Done ++ Rest).Perm E) (hnd : (E.map (fun p => kS p.2)).Nodup)
    (h : ∀ kl, D.atKey kl .nil = encP (fE kS E kl) ∧ Maps.has D kl = (fE kS E kl).isSome) (hlk : left kl = true) (hv : ptrE (ptrV c) = some y) (hat : ∀ zd, D.atKey kl zd = y.1) (hkey : WideAt.IsKeyLit kl) :
    ∃ p R, p ∈ E ∧ ptrV c = .pointer (some ⟨p.1, 0, none⟩) ∧ leftOk R (fun z => left z && !z.sameKey kl) ∧ ((Done ++ [p]) ++ R).Perm E := by
  obtain ⟨p, hp, hk⟩ := (HL kl).1 hlk
  have hpE : p ∈ E := hperm.mem_iff.1 (List.mem_append_right _ hp)
  obtain ⟨R1, R2, rfl⟩ := List.append_of_mem hp
  have hf := fE_nodup hnd hpE
  rw [hk] at hf
  have hy : y.1 = encP (some p.1) := by rw [← hat .nil, (h kl).1, hf]
  have hc := ptrE_inv (d := y.1) (ps := y.2) hv hy
  have hpm : (Done ++ (R1 ++ p :: R2)).Perm ((Done ++ [p]) ++ (R1 ++ R2)) := by
    rw [List.append_assoc]
    exact List.Perm.append_left Done (List.perm_middle)
  refine ⟨p, R1 ++ R2, hpE, hc, ?_, hpm.symm.trans hperm⟩
  have hnd2 : (((Done ++ [p]) ++ (R1 ++ R2)).map (fun p => kS p.2)).Nodup := ((hpm.symm.trans hperm).map _).nodup_iff.2 hnd
  rw [List.append_assoc, List.map_append] at hnd2
  have hnd3 := (List.nodup_append.1 hnd2).2.1
  rw [List.singleton_append, List.map_cons, List.nodup_cons] at hnd3
  intro z
  rw [Bool.and_eq_true, Bool.not_eq_true']
  constructor
  · rintro ⟨hz, hs⟩
    obtain ⟨q, hq, hqk⟩ := (HL z).1 hz
    refine ⟨q, ?_, hqk⟩
    rcases List.mem_append.1 hq with hq | hq
    · exact List.mem_append_left _ hq
    · rcases List.mem_cons.1 hq with rfl | hq
      · have : z = kl := hqk.symm.trans hk
        rw [(WideAt.sameKey_iff hkey).2 this] at hs
        cases hs
      · exact List.mem_append_right _ hq
  · rintro ⟨q, hq, hqk⟩
    refine ⟨(HL z).2 ⟨q, ?_, hqk⟩, ?_⟩
    · rcases List.mem_append.1 hq with hq | hq
      · exact List.mem_append_left _ hq
      · exact List.mem_append_right _ (List.mem_cons_of_mem _ hq)
    · cases hs : z.sameKey kl with
      | false => rfl
      | true =>
        have hz := (WideAt.sameKey_iff hkey).1 hs
        exact absurd (List.mem_map.2 ⟨q, hq, by rw [hqk, hz, hk]⟩) hnd3.1
theorem kS_ne {x y : S51} (h : kS x ≠ kS y) : x.f1.toList ≠ y.f1.toList := fun he => h (by unfold kS; rw [show x.f1.data.toList = y.f1.data.toList by rw [ByteArray.toList_eq, ByteArray.toList_eq] at he; exact he])
open Go.Sort in
theorem sorted_strict {xs : List S51} {d' : Array S51} (hp : PermIn 0 xs.toArray.size xs.toArray d') (hs : SortedIn (ltOf cmpT) 0 xs.toArray.size d') (hnd : (xs.map kS).Nodup) : d'.toList.Perm xs ∧ d'.toList.Pairwise (fun x y => x.f1.toList < y.f1.toList) := by
  have h1 := hp.2.2
  have hsz : d'.size = xs.length := by rw [hp.1]; simp
  have e1 : d'.extract 0 xs.toArray.size = d' := by rw [show xs.toArray.size = d'.size by rw [hp.1]]; simp
  have e2 : xs.toArray.extract 0 xs.toArray.size = xs.toArray := by simp
  rw [e1, e2] at h1
  have hperm : d'.toList.Perm xs := by simpa using h1
  refine ⟨hperm, ?_⟩
  have hnd2 : (d'.toList.map kS).Nodup := (hperm.map _).nodup_iff.2 hnd
  rw [List.pairwise_iff_getElem]
  intro i j hi hj hij
  have hi' : i < d'.size := by simpa using hi
  have hj' : j < d'.size := by simpa using hj
  have h2 := hs i j (Nat.zero_le _) hij (by simp; omega)
  rw [ltT, getElem!_pos d' i hi', getElem!_pos d' j hj'] at h2
  have h3 := of_decide_eq_false h2
  have h4 : kS d'[i] ≠ kS d'[j] := by
    have := (List.pairwise_iff_getElem.1 hnd2) i j (by simpa using hi') (by simpa using hj') hij
    simpa using this
  simp only [Array.getElem_toList]
  by_cases h5 : d'[i].f1.toList < d'[j].f1.toList
  · exact h5
  · exact absurd (List.le_antisymm (Std.not_lt.1 h3) (Std.not_lt.1 h5)) (kS_ne h4)
theorem dblk_new2 (w : World) (a b : Obj) : ((w.alloc a).alloc b).heap[w.heap.size + 1]? = some b := by
  have := blk_new (w.alloc a) b
  simpa using this
theorem dblk_set2 {w : World} {g t : Nat} {a b a' b' : Value} (h : w.heap[g]? = some (.cells #[a, b] t (0, 0))) : ((w.setCell ⟨g, 0, none⟩ a').setCell ⟨g, 1, none⟩ b').heap[g]? = some (.cells #[a', b'] t (0, 0)) := blk_put (blk_put h 0 a' rfl) 1 b' rfl
def DictPost (next : Int) (l : List S51) (w : World) (e : Ending) (w' : World) : Prop :=
  ∃ A c ys, e = .returned (.agg #[.int .i64 next, .slice A ys.length c]) ∧ ys.Perm l ∧ ys.Pairwise (fun x y => x.f1.toList < y.f1.toList) ∧ Kd.R k51 51 w' w.heap.size (fun _ => True) (.slice A ys.length c) ys ∧ Below w.heap.size w w'
set_option maxHeartbeats 4000000 in
set_option maxRecDepth 100000 in
theorem dict_any {w : World} {lo bk m1 m2 : Nat} {next : Int} {E : List (Nat × S51)} (hbk : Book w lo bk m1 m2 next E) (hnd : (E.map (fun p => kS p.2)).Nodup) (hl : E.length ≤ 1200) :
    Calls Try.prog 41 #[.pointer (some ⟨bk, 0, none⟩)] w (DictPost next (E.map (·.2)) w) := by
  have hu51 := Try.underlying51
  have hu61 := Try.underlying61
  have hu29 := Try.underlying29
  obtain ⟨D, hown, hsD, hatD⟩ := hbk.2.2.2.2.2.2.2.1
  have b0 : w.cell? ⟨bk, 0, none⟩ = some (.int .i64 next) := (blk_cell hbk.2.2.2.2.2.1 0).trans rfl
  have b1 : w.cell? ⟨bk, 1, none⟩ = some (.map (some m1)) := (blk_cell hbk.2.2.2.2.2.1 1).trans rfl
  have bl := blk_lt hbk.2.2.2.2.2.1
  have HBK := Aside0.mk hbk
  have HND := Aside0.mk hnd
  have HL := Aside0.mk hl
  have HOWN := Aside0.mk hown
  have HSD := Aside0.mk hsD
  have HAT := Aside0.mk hatD
  have HB := Aside0.mk (Below.refl w.heap.size w)
  clear hbk hnd hl hown hsD hatD
  go_enter Try.func41, Try.ntmps41
  go_wp2_with (first
    | (at_range; refine wpList_range_own _ rfl _ 58 rfl 9 57 lawS Try.underlying58 _ m1 E.length D rfl ((HOWN.out.alloc _).alloc _) ?_; intro w0 hrg0 hg0 hs0; rw [show ((w.alloc (.cells #[.int .i64 0, .slice none 0 0] 29)).alloc (.cells #[.int .i64 next, .slice none 0 0] 29)).heap.size = w.heap.size + 1 + 1 by simp] at hrg0 hs0 ⊢)
    | go_in)
  go_frame
  go_loopg [5] E.length (fun kq v5 w' => ∃ (Done Rest : List (Nat × S51)) (left : Lit → Bool) (A' : Option Addr) (c' : Nat), Aside0 (w'.ranges Try.prog 9 ptrE m1 (w.heap.size + 1 + 1) E.length D left kq) ∧ Aside0 (leftOk Rest left ∧ (Done ++ Rest).Perm E) ∧ Aside0 (w'.heap[w.heap.size]? = some (.cells #[.int .i64 0, .slice none 0 0] 29 (0, 0))) ∧ Aside0 (w'.heap[w.heap.size + 1]? = some (.cells #[.int .i64 next, .slice A' (Done.map (·.2)).length c'] 29 (0, 0))) ∧ Aside0 (Kd.R k51 51 w' w.heap.size (fun k_ => k_ ≠ w.heap.size + 1 + 1) (.slice A' (Done.map (·.2)).length c') (Done.map (·.2))) ∧ Aside0 (Below w.heap.size w w'))
  case atStart =>
    refine ⟨[], E, Maps.has D, none, 0, ⟨by have h := hrg0; rw [HSD.out] at h; exact h⟩, ⟨left_start HAT.out, List.Perm.refl _⟩, ⟨blk_grown (blk_alloc (blk_new w _) _) hg0 (by simp)⟩, ⟨blk_grown (dblk_new2 w _ _) hg0 (by simp)⟩, ⟨Kd.R_nil _ _ _ _ _⟩, ⟨pw_below_grown (below_alloc (below_alloc HB.out _) _) none (by simp; omega) hg0 (by simp)⟩⟩
  case round =>
    obtain ⟨Done, Rest, left, A', c', HRG, HLE, K2, K3, HR, HBW⟩ := hrel
    have hrg := HRG.out
    generalize hn : (Done.map (·.2)).length = dn at *
    have HN := Aside0.mk hn
    clear hn hrg0 hg0 hs0
    go_wp2_with (first
      | (at_next; refine wpList_next_ranges _ rfl (.tmp 15) rfl 9 lawS ptrE Value.string ptrV (fun key kl h => Maps.keyOf_string_inv Try.underlying9 h) ptrE_form m1 (w.heap.size + 1 + 1) E.length D left _ rfl hrg ?_ ?_)
      | go_in)
    · intro hc0 hl0
      clear hrg
      have hR0 := left_end HLE.out.1 hl0
      subst hR0
      have hperm : Done.Perm E := by have := HLE.out.2; rwa [List.append_nil] at this
      have HPERM := Aside0.mk hperm
      have HSZ := Aside0.mk (show dn ≤ 1200 by have h1 := hperm.length_eq; have h2 := HN.out; rw [List.length_map] at h2; have := HL.out; omega)
      have HNDs := Aside0.mk (show ((Done.map (·.2)).map kS).Nodup by rw [List.map_map]; exact ((hperm.map _).nodup_iff.2 HND.out))
      clear hc0 hl0 hperm HLE HRG
      obtain ⟨inner, hown⟩ := Kd.R_own HR.out
      have x0 : wr.cell? ⟨w.heap.size + 1, 0, none⟩ = some (.int .i64 next) := (blk_cell K3.out 0).trans rfl
      have x1 : wr.cell? ⟨w.heap.size + 1, 1, none⟩ = some (.slice A' dn c') := (blk_cell K3.out 1).trans rfl
      have u1 := blk_frozen K3.out 1
      have ul := blk_lt K3.out
      have y0 : wr.cell? ⟨w.heap.size, 0, none⟩ = some (.int .i64 0) := (blk_cell K2.out 0).trans rfl
      have y1 : wr.cell? ⟨w.heap.size, 1, none⟩ = some (.slice none 0 0) := (blk_cell K2.out 1).trans rfl
      have v0 := blk_frozen K2.out 0
      have v1 := blk_frozen K2.out 1
      have vl := blk_lt K2.out
      rcases hown.2 with ⟨hnil, hk0⟩ | ⟨g, cap, cur, hv, hbase, hb, h1, h2, h3, h4⟩
      · injection hnil with q1 q2 q3
        subst q1 q2 q3
        clear hown
        have hnone := AnyF.slices_SortFunc_none sortTerm none 0 (.func (.func 52) #[] #[])
        change ∀ w, Calls Try.prog 51 _ w _ at hnone
        go_wp2_with (go_at_call 51; refine (hnone _).mono ?_; rintro e w' ⟨rfl, rfl⟩)
        have hD : Done = [] := List.map_eq_nil_iff.1 (List.eq_nil_of_length_eq_zero (by rw [HN.out]))
        have hE : E.map (·.2) = [] := by have h1 := HPERM.out.length_eq; rw [hD] at h1; rw [List.eq_nil_of_length_eq_zero h1.symm]; rfl
        refine bodyPost_ret (results_cell_row rfl _ _ (w.heap.size) 29 #[.int .i64 next, .slice none 0 0] (0, 0) _ rfl (dblk_set2 K2.out) Try.underlying29 rfl (by kernel_rfl)) rfl ⟨none, 0, [], rfl, by rw [hE], List.Pairwise.nil, Kd.R_nil _ _ _ _ _, (HBW.out.setCell (Nat.le_refl _) _).setCell (Nat.le_refl _) _⟩
      · injection hv with q1 q2 q3
        subst q1 q3
        have eg : ∀ args w, (callFunc 52 args).run Try.prog w = .ok (.enter 52 args) w := enters_of Try.func52 (by kernel_rfl) rfl
        have hsz : (Done.map (·.2)).toArray.size = dn := by rw [List.size_toArray]; exact HN.out
        have hcon := AnyQ.slices_SortFunc sortTerm 3 Try.isAgg51 Try.sizeOf51 encT (fun _ => rfl) (fun x v hv => by simp [encT] at hv; rcases hv with rfl | rfl | rfl <;> rfl) cmpT swoT 52 #[] g 0 c' (Done.map (·.2)).toArray wr eg (fun _ _ _ _ x y => clos_sort x y _) (rT_holds HR.out) (blk_lt hb) (by rw [hsz]; have := HSZ.out; omega)
        have HSS := Aside0.mk (fun d' (hp : Go.Sort.PermIn 0 (Done.map (·.2)).toArray.size (Done.map (·.2)).toArray d') (hs : Go.Sort.SortedIn (ltOf cmpT) 0 (Done.map (·.2)).toArray.size d') => And.intro (sorted_strict hp hs HNDs.out) hp.1)
        rw [hsz] at hcon HSS
        change Calls Try.prog 51 _ _ _ at hcon
        clear hown eg h1 h2 h3 h4 hb q2
        go_wp2_with fail
        refine hcon.mono ?_
        rintro e w' ⟨rfl, d', n, os, hp, hs, rfl⟩
        obtain ⟨hyp, hyl⟩ := HSS.out d' hp hs
        obtain ⟨ys, rfl⟩ : ∃ ys : List S51, d' = ys.toArray := ⟨d'.toList, rfl⟩
        have hyl : ys.length = dn := by simpa using hyl
        have HYL := Aside0.mk hyl
        have HR5 := Aside0.mk (rT_sorted HR.out ys (hyl.trans HN.out.symm) n os)
        have HG5 : wr.grownBy (sortWorldK encT 3 wr g 0 n ys.toArray os) (some g) := grownBy_sortedK _
        have K25 := Aside0.mk (blk_grown K2.out HG5 (Kd.R_ne HR.out K2.out (by decide)))
        have K35 := Aside0.mk (blk_grown K3.out HG5 (Kd.R_ne HR.out K3.out (by decide)))
        have HB5 := Aside0.mk (pw_below_grown HBW.out _ (Nat.le_of_lt vl) HG5 (fun k hk => by cases hk; exact hbase))
        have HYP := Aside0.mk hyp
        clear hyp hyl hp hs HG5 hcon HSS x0 x1 u1 ul y0 y1 v0 v1 vl HR K2 K3 HBW
        generalize sortWorldK encT 3 wr g 0 n ys.toArray os = w5 at *
        have x0 : w5.cell? ⟨w.heap.size + 1, 0, none⟩ = some (.int .i64 next) := (blk_cell K35.out 0).trans rfl
        have x1 : w5.cell? ⟨w.heap.size + 1, 1, none⟩ = some (.slice (some ⟨g, 0, none⟩) dn c') := (blk_cell K35.out 1).trans rfl
        have y0 : w5.cell? ⟨w.heap.size, 0, none⟩ = some (.int .i64 0) := (blk_cell K25.out 0).trans rfl
        have y1 : w5.cell? ⟨w.heap.size, 1, none⟩ = some (.slice none 0 0) := (blk_cell K25.out 1).trans rfl
        have v0 := blk_frozen K25.out 0
        have v1 := blk_frozen K25.out 1
        have vl := blk_lt K25.out
        go_wp2_with fail
        refine bodyPost_ret (results_cell_row rfl _ _ (w.heap.size) 29 #[.int .i64 next, .slice (some ⟨g, 0, none⟩) dn c'] (0, 0) _ rfl (dblk_set2 K25.out) Try.underlying29 rfl (by kernel_rfl)) rfl ⟨some ⟨g, 0, none⟩, c', ys, by rw [HYL.out], HYP.out.1.trans (HPERM.out.map _), HYP.out.2, ?_, (HB5.out.setCell (Nat.le_refl _) _).setCell (Nat.le_refl _) _⟩
        rw [HYL.out]
        exact Kd.R_mono (Kd.R_far (p := ⟨w.heap.size, 1, none⟩) (Kd.R_far (p := ⟨w.heap.size, 0, none⟩) (Kd.R_types HR5.out K25.out (by decide)) (fun _ hk => hk.2) _) (fun _ hk => hk.2) _) (fun _ _ => trivial)
    · intro x c kl y yp w2 cnt' hkey hlk hv hat hrg2 hlt hgr hsz hen
      obtain ⟨p, R, hpE, hc, hleft, hperm⟩ := left_step HLE.out.1 HLE.out.2 HND.out HAT.out hlk hv hat (lawS.key hkey)
      rw [hc] at hen ⊢
      clear hrg hv hat hlk hkey hc
      have HLT := Aside0.mk hlt
      have HRG2 := Aside0.mk hrg2
      have HLE2 := Aside0.mk (And.intro hleft hperm)
      have hwl : w.heap.size + 1 < wr.heap.size := blk_lt K3.out
      have KP0 := Book.below (HBK.out) HBW.out
      have HPE := Aside0.mk hpE
      have KP := Aside0.mk (blk_grown (KP0.2.2.2.2.2.2.1 p hpE).2 hgr (fun he => by have := blk_lt (HBK.out.2.2.2.2.2.2.1 p hpE).2; simp at he; omega))
      have K2b := Aside0.mk (blk_grown K2.out hgr (by simp; omega))
      have K3b := Aside0.mk (blk_grown K3.out hgr (by simp))
      have HRb := Aside0.mk (Kd.R_step HR.out (fun k hk hk2 => hgr.block k hk2 (by simp; exact hk)))
      have HBb := Aside0.mk (pw_below_grown HBW.out _ (Nat.le_of_lt (by omega)) hgr (by simp; omega))
      have HRL := Aside0.mk (show w.heap.size + 1 + 1 < w2.heap.size from HRG2.out.lt)
      have HM1 := Aside0.mk (show m1 < w.heap.size from MapOf.lt HBK.out.2.2.2.2.2.2.2.1)
      have HDL := Aside0.mk (show dn ≤ 1200 by have h1 := HLE.out.2.length_eq; have h2 := HN.out; rw [List.length_map] at h2; rw [List.length_append] at h1; have := HL.out; omega)
      clear hrg2 hlt hgr hsz hleft hperm hwl KP0 hpE HRG HLE K2 K3 HR HBW b0 b1 bl
      obtain ⟨pb, t⟩ := p
      have p0 : w2.cell? ⟨pb, 0, none⟩ = some (.int .i64 t.f0) := (blk_cell KP.out 0).trans rfl
      have p1 : w2.cell? ⟨pb, 1, none⟩ = some (.string t.f1) := (blk_cell KP.out 1).trans rfl
      have p2 : w2.cell? ⟨pb, 2, none⟩ = some (.int .i64 t.f2) := (blk_cell KP.out 2).trans rfl
      have x0 : w2.cell? ⟨w.heap.size + 1, 0, none⟩ = some (.int .i64 next) := (blk_cell K3b.out 0).trans rfl
      have x1 : w2.cell? ⟨w.heap.size + 1, 1, none⟩ = some (.slice A' dn c') := (blk_cell K3b.out 1).trans rfl
      have u1 := blk_frozen K3b.out 1
      have ul := blk_lt K3b.out
      have pl := blk_lt KP.out
      go_wp2_with fail
      go_region_law (go_loud (
                     refine Kd.R_append_step k51 (w0 := w) (W := w2.drew) w.heap.size (by rfl) (.tmp 21) (.tmp 25) 27 51 (.agg #[(.int .i64 0), (.string ⟨#[]⟩), (.int .i64 0)]) 32 rfl Try.underlying27 info51 rfl (by decide) (by omega) (.slice A' dn c') (Done.map (·.2)) t [.int .i64 t.f0, .string t.f1, .int .i64 t.f2] (fun k_ => k_ ≠ w.heap.size + 1 + 1) (fun _ => False) rfl rfl ?aP ?aK ?aF ?aO ?aB ?aS ?aL ?_
                     case aP => exact k51_mkM _ _ _ t
                     case aK => exact fun _ h => h.elim
                     case aF => exact fun k hk => Nat.ne_of_gt (Nat.lt_of_lt_of_le HRL.out hk)
                     case aO => exact Kd.R_drew HRb.out
                     case aB => exact below_drew HBb.out
                     case aS => exact Nat.le_trans (by omega) (Nat.le_of_lt HRL.out)
                     case aL => have h1 := HDL.out; have h2 := HN.out; omega
                     intro v26 w3 ho hb hg hat
                     have HO := Aside0.mk ho
                     have HB3 := Aside0.mk hb
                     have K2c := Aside0.mk (blk_grown (blk_drew K2b.out) hg (Kd.R_ne HRb.out K2b.out (by decide)))
                     have K3c := Aside0.mk (blk_grown (blk_drew K3b.out) hg (Kd.R_ne HRb.out K3b.out (by decide)))
                     have HRG3 := Aside0.mk (World.ranges.kept (show w2.drew.ranges Try.prog 9 ptrE m1 (w.heap.size + 1 + 1) E.length D (fun z => left z && !z.sameKey kl) cnt' from HRG2.out) hg (fun he => by have h1 := Kd.R_base HRb.out m1 he.symm; have h2 := HM1.out; omega) (fun he => by obtain ⟨inner, hw⟩ := Kd.R_own HRb.out; exact row_ne_iter hw HRG2.out he))
                     clear ho hb hg hat
                     obtain ⟨GA, gc, ev⟩ := Kd.R_slice HO.out
                     generalize hn2 : (Done.map (·.2) ++ [t]).length = dn2 at ev
                     have HN2 := Aside0.mk hn2
                     clear hn2
                     subst ev
                     clear p0 p1 p2 x0 x1 u1 ul pl
                     have x0 : w3.cell? ⟨w.heap.size + 1, 0, none⟩ = some (.int .i64 next) := (blk_cell K3c.out 0).trans rfl
                     have x1 : w3.cell? ⟨w.heap.size + 1, 1, none⟩ = some (.slice A' dn c') := (blk_cell K3c.out 1).trans rfl
                     have u1 := blk_frozen K3c.out 1
                     have ul := blk_lt K3c.out))
      all_goals
        go_wp2_with fail
        go_roundg cnt'
        case measure => exact HLT.out
        case rel =>
          have e1 : (Done ++ [(pb, t)]).map (·.2) = Done.map (·.2) ++ [t] := by simp
          have hgs : w3.grownBy (w3.setCell ⟨w.heap.size + 1, 1, none⟩ (.slice GA dn2 gc)) (some (w.heap.size + 1)) := ⟨rfl, rfl, rfl, by simp [World.setCell], fun k hk hne => Below.heap_setCell w3 ⟨w.heap.size + 1, 1, none⟩ _ k (fun he => hne (by rw [he]))⟩
          refine ⟨Done ++ [(pb, t)], R, _, GA, gc, ⟨HRG3.out.kept hgs (by have := HM1.out; simp; omega) (by simp)⟩, HLE2, ⟨blk_far K2c.out (by simp) _⟩, ⟨?_⟩, ⟨?_⟩, ⟨HB3.out.setCell (by simp) _⟩⟩
          · rw [e1, HN2.out]
            exact blk_put K3c.out 1 _ rfl
          · rw [e1, HN2.out]
            exact Kd.R_mono (Kd.R_far (p := ⟨w.heap.size + 1, 1, none⟩) (Kd.R_types HO.out K3c.out (by decide)) (fun _ hk => hk.2) _) (fun _ hk => hk.1)

/-! ### impl_clone: a text by hand -/
-- import Derived.Deep.RegionLaw
-- import Derived.Deep.RegionWith
theorem rT_empty (w : World) : Kd.R k51 51 (w.alloc (.cells #[] 51)) w.heap.size (fun _ => True) (.slice (some ⟨w.heap.size, 0, none⟩) 0 0) [] :=
  ⟨fun _ _ => trivial, [], World.ownsRow_lit (base := w.heap.size) (e := 51) (size := 3) w #[] 0 (Nat.le_refl _) (by decide) (by simp), Reps.none _ _⟩
set_option maxHeartbeats 4000000 in
set_option maxRecDepth 100000 in
theorem clone_any (A : Option Addr) (c : Nat) (l : List S51) (w : World) (hr : Kd.C k51 w A l.length l) (hc : l.length ≤ c) (h : l.length < 4398046511104) :
    Calls Try.prog 50 #[.slice A l.length c] w fun e w' => ∃ v, e = .returned v ∧ Kd.R k51 51 w' w.heap.size (fun _ => True) v l ∧ Below w.heap.size w w' := by
  have q27 : ∀ (w : World) (a : Option Addr) (n c n' c' : Nat), (binOp .eql 27 (.slice a n c) (.slice none n' c')).run Try.prog w = .ok (.bool a.isNone) w := fun w a n c n' c' => Lib.run_eql_slice_nil w _ _ a n c n' c' Try.underlying27
  have HR := Aside0.mk hr
  have HB := Aside0.mk (Below.refl w.heap.size w)
  rcases A with _ | ad
  · have h0 : l = [] := by
      cases l with
      | nil => rfl
      | cons x r => obtain ⟨ad, h1, _⟩ := hr.2.2 (by simp); cases h1
    subst h0
    clear hr hc h
    go_enter Try.func50, Try.ntmps50
    go_wp2_with fail
    go_ret
    exact ⟨_, rfl, Kd.R_nil _ _ _ _ _, HB.out⟩
  · have HL := Aside0.mk h
    clear hr hc h
    go_enter Try.func50, Try.ntmps50
    go_wp2_with ((with_reducible refine gate_builtin (b := .append) (xs := #[.tmp 5, .tmp 6]) rfl ?_); at_builtin; go_loud (refine Kd.R_append_rows k51 (w0 := w) w.heap.size rfl (.tmp 5) (.tmp 6) 27 51 (.agg #[(.int .i64 0), (.string ⟨#[]⟩), (.int .i64 0)]) 32 rfl Try.underlying27 info51 rfl (by decide) (by omega) (.slice (some ⟨w.heap.size, 0, none⟩) 0 0) [] l _ _ _ (fun _ => True) (fun _ => False) rfl rfl (rT_empty w) (Kd.C_alloc HR.out _) (fun x cs h => by rw [k51_open h]; exact k51_mkM _ _ _ _) (fun _ h => h.elim) (fun _ _ => trivial) (below_alloc HB.out _) (by simp) (by have := HL.out; simp; omega) ?_); intro v w2 ho hb hg hat; rw [List.nil_append] at ho; have HO := Aside0.mk ho; have HB2 := Aside0.mk hb; clear ho hb hg hat)
    go_ret
    exact ⟨_, rfl, HO.out, HB2.out⟩
set_option maxHeartbeats 4000000 in
set_option maxRecDepth 100000 in
theorem dclone_any (next : Int) (A : Option Addr) (c : Nat) (l : List S51) (w : World) (hr : Kd.C k51 w A l.length l) (hc : l.length ≤ c) (h : l.length < 4398046511104) :
    Calls Try.prog 39 #[.agg #[.int .i64 next, .slice A l.length c]] w fun e w' => ∃ A' c', e = .returned (.agg #[.int .i64 next, .slice A' l.length c']) ∧ Kd.R k51 51 w' w.heap.size (fun _ => True) (.slice A' l.length c') l ∧ Below w.heap.size w w' := by
  have hu29 := Try.underlying29
  have HR := Aside0.mk hr
  have HC := Aside0.mk hc
  have HL := Aside0.mk h
  have HB := Aside0.mk (Below.refl w.heap.size w)
  clear hr hc h
  go_enter Try.func39, Try.ntmps39
  go_wp2_with fail
  have K1 := Aside0.mk (blk_alloc (blk_new w (.cells #[.int .i64 next, .slice A l.length c] 29)) (.cells #[.int .i64 0, .slice none 0 0] 29))
  have HRA := Aside0.mk (Kd.C_alloc (Kd.C_alloc HR.out (.cells #[.int .i64 next, .slice A l.length c] 29)) (.cells #[.int .i64 0, .slice none 0 0] 29))
  have K2 := Aside0.mk (blk_new (w.alloc (.cells #[.int .i64 next, .slice A l.length c] 29)) (.cells #[.int .i64 0, .slice none 0 0] 29))
  have HBA := Aside0.mk (below_alloc (below_alloc HB.out (.cells #[.int .i64 next, .slice A l.length c] 29)) (.cells #[.int .i64 0, .slice none 0 0] 29))
  have hs2 : (w.alloc (.cells #[.int .i64 next, .slice A l.length c] 29)).heap.size = w.heap.size + 1 := by simp
  rw [hs2] at K2
  generalize (w.alloc (.cells #[.int .i64 next, .slice A l.length c] 29)).alloc (.cells #[.int .i64 0, .slice none 0 0] 29) = w1 at *
  clear hs2
  have x0 : w1.cell? ⟨w.heap.size, 0, none⟩ = some (.int .i64 next) := (blk_cell K1.out 0).trans rfl
  have x1 : w1.cell? ⟨w.heap.size, 1, none⟩ = some (.slice A l.length c) := (blk_cell K1.out 1).trans rfl
  have y0 := blk_frozen K2.out 0
  have y1 := blk_frozen K2.out 1
  have yl := blk_lt K2.out
  have HS1 := Aside0.mk (show w.heap.size ≤ w1.heap.size by omega)
  go_region_with (go_at_call 50; refine (clone_any A c l _ (Kd.C_drew HRA.out) HC.out HL.out).mono ?_; rintro e w2 ⟨v, rfl, hR, hB⟩; (have K1c := Aside0.mk (blk_below (blk_drew K1.out) hB)); (have K2c := Aside0.mk (blk_below (blk_drew K2.out) hB)); obtain ⟨A', c', rfl⟩ := Kd.R_slice hR; have HRc := Aside0.mk hR; have HBc := Aside0.mk hB; clear hR hB x0 x1 y0 y1 yl; (have x0 : w2.cell? ⟨w.heap.size, 0, none⟩ = some (.int .i64 next) := (blk_cell K1c.out 0).trans rfl); (have z0 : w2.cell? ⟨w.heap.size + 1, 0, none⟩ = some (.int .i64 0) := (blk_cell K2c.out 0).trans rfl); (have z1 : w2.cell? ⟨w.heap.size + 1, 1, none⟩ = some (.slice none 0 0) := (blk_cell K2c.out 1).trans rfl); (have y0 := blk_frozen K2c.out 0); (have y1 := blk_frozen K2c.out 1); (have yl := blk_lt K2c.out))
  all_goals
    go_wp2_with fail
    refine bodyPost_ret (results_cell_row rfl _ _ (w.heap.size + 1) 29 #[.int .i64 next, .slice A' l.length c'] (0, 0) _ rfl (dblk_set2 K2c.out) Try.underlying29 rfl (by kernel_rfl)) rfl ⟨A', c', rfl, ?_, ?_⟩
    · exact Kd.R_mono (Kd.R_far (p := ⟨w.heap.size + 1, 1, none⟩) (Kd.R_far (p := ⟨w.heap.size + 1, 0, none⟩) (Kd.R_types (Kd.R_lower HRc.out HS1.out) K2c.out (by decide)) (fun _ hk => hk.2) _) (fun _ hk => hk.2) _) (fun _ _ => trivial)
    · exact ((below_then (below_drew HBA.out) HS1.out HBc.out).setCell (by simp) _).setCell (by simp) _

/-! ### impl_intern2: a text by hand -/
-- import Derived.Deep.RegionLaw
theorem dblk_set4 {w : World} {g t : Nat} {a b c d a' b' c' d' : Value} (h : w.heap[g]? = some (.cells #[a, b, c, d] t (0, 0))) : ((((w.setCell ⟨g, 0, none⟩ a').setCell ⟨g, 1, none⟩ b').setCell ⟨g, 2, none⟩ c').setCell ⟨g, 3, none⟩ d').heap[g]? = some (.cells #[a', b', c', d'] t (0, 0)) := blk_put (blk_put (blk_put (blk_put h 0 a' rfl) 1 b' rfl) 2 c' rfl) 3 d' rfl
theorem dblk_cells4 {w : World} {g t : Nat} {a b c d : Value} (h : w.heap[g]? = some (.cells #[a, b, c, d] t (0, 0))) : w.cell? ⟨g, 0, none⟩ = some a ∧ w.cell? ⟨g, 1, none⟩ = some b ∧ w.cell? ⟨g, 2, none⟩ = some c ∧ w.cell? ⟨g, 3, none⟩ = some d ∧ w.frozen? ⟨g, 0, none⟩ = false ∧ w.frozen? ⟨g, 1, none⟩ = false ∧ w.frozen? ⟨g, 2, none⟩ = false ∧ w.frozen? ⟨g, 3, none⟩ = false :=
  ⟨(blk_cell h 0).trans rfl, (blk_cell h 1).trans rfl, (blk_cell h 2).trans rfl, (blk_cell h 3).trans rfl, blk_frozen h 0, blk_frozen h 1, blk_frozen h 2, blk_frozen h 3⟩
def ResPost (R : Bool × Int × Int × List S51) (w : World) (e : Ending) (w' : World) : Prop :=
  ∃ v, e = .returned (.agg #[.bool R.1, .int .i64 R.2.1, .int .i64 R.2.2.1, v]) ∧ Kd.R k51 51 w' w.heap.size (fun _ => True) v R.2.2.2 ∧ Below w.heap.size w w'
theorem res_row {w w5 : World} {b : Nat} {v0 v1 v2 v3 u0 u1 u2 : Value} {ys : List S51} {A : Option Addr} {c : Nat} (hR : Kd.R k51 51 w5 w.heap.size (fun _ => True) (.slice A ys.length c) ys) (K : w5.heap[b]? = some (.cells #[v0, v1, v2, v3] 38 (0, 0))) :
    Kd.R k51 51 ((((w5.setCell ⟨b, 0, none⟩ u0).setCell ⟨b, 1, none⟩ u1).setCell ⟨b, 2, none⟩ u2).setCell ⟨b, 3, none⟩ (.slice A ys.length c)) w.heap.size (fun _ => True) (.slice A ys.length c) ys :=
  Kd.R_mono (Kd.R_far (p := ⟨b, 3, none⟩) (Kd.R_far (p := ⟨b, 2, none⟩) (Kd.R_far (p := ⟨b, 1, none⟩) (Kd.R_far (p := ⟨b, 0, none⟩) (Kd.R_types hR K (by decide)) (fun _ hk => hk.2) _) (fun _ hk => hk.2) _) (fun _ hk => hk.2) _) (fun _ hk => hk.2) _) (fun _ _ => trivial)
theorem res_below {w w5 : World} {b : Nat} (h : Below w.heap.size w w5) (hb : w.heap.size ≤ b) (u0 u1 u2 u3 : Value) : Below w.heap.size w ((((w5.setCell ⟨b, 0, none⟩ u0).setCell ⟨b, 1, none⟩ u1).setCell ⟨b, 2, none⟩ u2).setCell ⟨b, 3, none⟩ u3) :=
  (((h.setCell hb _).setCell hb _).setCell hb _).setCell hb _
set_option maxHeartbeats 4000000 in
set_option maxRecDepth 100000 in
theorem internI_any (next : Int) (A : Option Addr) (c : Nat) (l : List S51) (s : ByteArray) (w : World) (hr : Kd.C k51 w A l.length l) (hc : l.length ≤ c) (h : l.length < 4398046511104) :
    Calls Try.prog 19 #[.agg #[.int .i64 next, .slice A l.length c], .string s] w (ResPost (sIntern next l s) w) := by
  have hu29 := Try.underlying29
  have hu38 := Try.underlying38
  have HR := Aside0.mk hr
  have HC := Aside0.mk hc
  have HL := Aside0.mk h
  have HB := Aside0.mk (Below.refl w.heap.size w)
  clear hr hc h
  go_enter Try.func19, Try.ntmps19
  go_wp2_with fail
  have K1 := Aside0.mk (blk_alloc (blk_new w (.cells #[.int .i64 next, .slice A l.length c] 29)) (.cells #[.bool false, .int .i64 0, .int .i64 0, .slice none 0 0] 38))
  have K2 := Aside0.mk (dblk_new2 w (.cells #[.int .i64 next, .slice A l.length c] 29) (.cells #[.bool false, .int .i64 0, .int .i64 0, .slice none 0 0] 38))
  have HRA := Aside0.mk (Kd.C_alloc (Kd.C_alloc HR.out (.cells #[.int .i64 next, .slice A l.length c] 29)) (.cells #[.bool false, .int .i64 0, .int .i64 0, .slice none 0 0] 38))
  have HBA := Aside0.mk (below_alloc (below_alloc HB.out (.cells #[.int .i64 next, .slice A l.length c] 29)) (.cells #[.bool false, .int .i64 0, .int .i64 0, .slice none 0 0] 38))
  refine (book_calls next A c l _ HRA.out HC.out).mono ?_
  generalize (w.alloc (.cells #[.int .i64 next, .slice A l.length c] 29)).alloc (.cells #[.bool false, .int .i64 0, .int .i64 0, .slice none 0 0] 38) = w1 at *
  rintro e w2 ⟨hb, hcase⟩
  have K1b := Aside0.mk (blk_below K1.out hb)
  have K2b := Aside0.mk (blk_below K2.out hb)
  have HRb := Aside0.mk (Kd.C_below HRA.out hb)
  have HS1 := Aside0.mk (show w.heap.size + 1 < w1.heap.size from blk_lt K2.out)
  have HBb := Aside0.mk (below_then HBA.out (by have := HS1.out; omega) hb)
  have x0 : w2.cell? ⟨w.heap.size, 0, none⟩ = some (.int .i64 next) := (blk_cell K1b.out 0).trans rfl
  have x1 : w2.cell? ⟨w.heap.size, 1, none⟩ = some (.slice A l.length c) := (blk_cell K1b.out 1).trans rfl
  rcases hcase with ⟨hv, rfl⟩ | ⟨hv, bk, m1, m2, E, rfl, hE, hbk⟩
  · have HV := Aside0.mk (sIntern_no (s := s) (Or.inl hv))
    clear hv hb
    go_wp2_with fail
    refine (dclone_any next A c l _ HRb.out HC.out HL.out).mono ?_
    rintro e w5 ⟨A', c', rfl, hR, hB⟩
    have K5 := Aside0.mk (blk_below K2b.out hB)
    have hle : w.heap.size ≤ w2.heap.size := by have := blk_lt K2b.out; omega
    have HR5 := Aside0.mk (Kd.R_lower hR hle)
    have HB5 := Aside0.mk (below_then HBb.out hle hB)
    clear hR hB hle x0 x1
    obtain ⟨z0, z1, z2, z3, y0, y1, y2, y3⟩ := dblk_cells4 K5.out
    have yl := blk_lt K5.out
    go_wp2_with fail
    refine bodyPost_ret (results_cell_row rfl _ _ (w.heap.size + 1) 38 #[.bool false, .int .i64 0, .int .i64 next, .slice A' l.length c'] (0, 0) _ rfl (dblk_set4 K5.out) Try.underlying38 rfl (by kernel_rfl)) rfl ?_
    rw [HV.out]
    exact ⟨_, rfl, res_row HR5.out K5.out, res_below HB5.out (by omega) _ _ _ _⟩
  · have HBK := Aside0.mk hbk
    have HE := Aside0.mk hE
    have HVT := Aside0.mk hv
    clear hb hE hv hbk
    go_wp2_with fail
    refine (intern_any HBK.out HE.out HVT.out s).mono ?_
    rintro e w3 hpost
    rcases hpost with ⟨hn, rfl, hw⟩ | ⟨id, n', l', E', hi, hid, rfl, hE', hbk', hB3⟩
    · subst hw
      have HV := Aside0.mk (sIntern_no (Or.inr hn))
      clear hn
      go_wp2_with fail
      refine (dclone_any next A c l _ HRb.out HC.out HL.out).mono ?_
      rintro e w5 ⟨A', c', rfl, hR, hB⟩
      have K5 := Aside0.mk (blk_below K2b.out hB)
      have hle : w.heap.size ≤ w3.heap.size := by have := blk_lt K2b.out; omega
      have HR5 := Aside0.mk (Kd.R_lower hR hle)
      have HB5 := Aside0.mk (below_then HBb.out hle hB)
      clear hR hB hle x0 x1
      obtain ⟨z0, z1, z2, z3, y0, y1, y2, y3⟩ := dblk_cells4 K5.out
      have yl := blk_lt K5.out
      go_wp2_with fail
      refine bodyPost_ret (results_cell_row rfl _ _ (w.heap.size + 1) 38 #[.bool false, .int .i64 0, .int .i64 next, .slice A' l.length c'] (0, 0) _ rfl (dblk_set4 K5.out) Try.underlying38 rfl (by kernel_rfl)) rfl ?_
      rw [HV.out]
      exact ⟨_, rfl, res_row HR5.out K5.out, res_below HB5.out (by omega) _ _ _ _⟩
    · obtain ⟨L, hs, hLp, hLa⟩ := sIntern_yes HVT.out hi
      have HV := Aside0.mk hs
      have HLP := Aside0.mk (And.intro hLp hLa)
      have hF := iRes_facts HVT.out hi
      have HF := Aside0.mk (show (E'.map (fun p => kS p.2)).Nodup ∧ E'.length ≤ 1200 from ⟨by have := hF.1; rw [← hE', List.map_map] at this; exact this, by have := hF.2; rw [← hE', List.length_map] at this; exact this⟩)
      have HE3 := Aside0.mk hE'
      have HBK3 := Aside0.mk hbk'
      have K2c := Aside0.mk ((hB3.block _ HS1.out).trans K2b.out)
      have HBc := Aside0.mk (HBb.out.trans ⟨hB3.os, hB3.tape, hB3.output, hB3.size, fun i hi => hB3.block i (by have := HS1.out; omega)⟩)
      have hidb : (id == 0) = false := beq_eq_false_iff_ne.2 hid
      clear hs hLp hLa hF hE' hbk' hB3 hi hid x0 x1
      go_wp2_with fail
      refine (dict_any HBK3.out HF.out.1 HF.out.2).mono ?_
      rintro e w5 ⟨A', c', ys, rfl, hp, ha, hR, hB⟩
      rw [HE3.out] at hp
      obtain rfl : ys = L := asc_unique (hp.trans HLP.out.1.symm) ha HLP.out.2
      have K5 := Aside0.mk (blk_below K2c.out hB)
      have hle : w.heap.size ≤ w3.heap.size := by have := blk_lt K2c.out; omega
      have HR5 := Aside0.mk (Kd.R_lower hR hle)
      have HB5 := Aside0.mk (below_then HBc.out hle hB)
      clear hR hB hle hp ha
      obtain ⟨z0, z1, z2, z3, y0, y1, y2, y3⟩ := dblk_cells4 K5.out
      have yl := blk_lt K5.out
      go_wp2_with fail
      refine bodyPost_ret (results_cell_row rfl _ _ (w.heap.size + 1) 38 #[.bool true, .int .i64 id, .int .i64 n', .slice A' ys.length c'] (0, 0) _ rfl (dblk_set4 K5.out) Try.underlying38 rfl (by kernel_rfl)) rfl ?_
      rw [HV.out]
      exact ⟨_, rfl, res_row HR5.out K5.out, res_below HB5.out (by omega) _ _ _ _⟩

/-! ### impl_Intern: function 19, proved by hand -/
theorem impl_Intern.calls (k : Nat) (a0_0 : Int) (A0_1 : Option Addr) (c0_1 : Nat) (l0_1 : List (S51)) (a1 : ByteArray) (r1 : Bool) (r2 : Int) (r3 : Int) (r4 : List (S51)) (w : World) (hr0_1 : Kd.C k51 w A0_1 l0_1.length l0_1) (hc0_1 : l0_1.length ≤ c0_1) (h : spec_Intern.f k a0_0 l0_1 a1 = some (r1, r2, r3, r4)) :
    Calls Try.prog 19 #[.agg #[.int .i64 a0_0, .slice A0_1 l0_1.length c0_1], .string a1] w fun e w' => ∃ v3_ : Value, e = .returned (.agg #[.bool r1, .int .i64 r2, .int .i64 r3, v3_]) ∧ Kd.R k51 51 w' w.heap.size (fun _ => True) v3_ r4 ∧ Below w.heap.size w w' := by
  obtain ⟨hL, hr⟩ := specIntern_h h
  refine (internI_any a0_0 A0_1 c0_1 l0_1 a1 w hr0_1 hc0_1 hL).mono ?_
  rintro e w' ⟨v, he, hR, hB⟩
  rw [← hr] at he hR
  exact ⟨v, he, hR, hB⟩

/-! ### spec_l4ById: function 35 -/
def spec_l4ById.l0 : Nat → Int → Int → Int → List (S51) → Option (Int)
  | 0, _, _, _, _ => none
  | k + 1, x1, x5, x339000, x339001 => if x5 < (x339001.length : Int) then (if 0 ≤ x5 then (if ((rd_T51 x339001 x5).f0) = x1 then (some x5) else (spec_l4ById.l0 k x1 (wrap64 (x5 + 1)) x339000 x339001)) else (none)) else (some (-1))
def spec_l4ById.f (k : Nat) (a0_0 : Int) (l0_1 : List (S51)) (a1 : Int) : Option (Int) := spec_l4ById.l0 k a1 0 a0_0 l0_1
theorem spec_l4ById.mono_l : ∀ k, (∀ y0 y1 y2 y3, LeO (spec_l4ById.l0 k y0 y1 y2 y3) (spec_l4ById.l0 (k + 1) y0 y1 y2 y3))
  | 0 => fun _ _ _ _ r h => by simp [spec_l4ById.l0] at h
  | k + 1 => by
    have ih0 := spec_l4ById.mono_l k
    · intro y0 y1 y2 y3
      unfold spec_l4ById.l0
      repeat' first
      | (with_reducible exact ih0 _ _ _ _)
      | (with_reducible exact LeO.refl _)
      | (with_reducible exact LeO.none _)
      | (with_reducible refine LeO.ite ?_ ?_)
      | (with_reducible refine LeO.bind ?_ (fun _ => ?_))
      | exact ih0 _ _ _ _
      | exact LeO.none _
      | refine LeO.ite ?_ ?_
      | refine LeO.bind ?_ (fun _ => ?_)
theorem spec_l4ById.mono : ∀ a0 a1 a2 k, LeO (spec_l4ById.f k a0 a1 a2) (spec_l4ById.f (k + 1) a0 a1 a2) := by
  intro a0 a1 a2 k
  have ih0 := spec_l4ById.mono_l k
  unfold spec_l4ById.f
  repeat' first
      | (with_reducible exact ih0 _ _ _ _)
      | (with_reducible exact LeO.refl _)
      | (with_reducible exact LeO.none _)
      | (with_reducible refine LeO.ite ?_ ?_)
      | (with_reducible refine LeO.bind ?_ (fun _ => ?_))
      | exact ih0 _ _ _ _
      | exact LeO.none _
      | refine LeO.ite ?_ ?_
      | refine LeO.bind ?_ (fun _ => ?_)
set_option maxHeartbeats 8000000 in
set_option maxRecDepth 100000 in
theorem spec_l4ById.calls (k : Nat) (a0_0 : Int) (A0_1 : Option Addr) (c0_1 : Nat) (l0_1 : List (S51)) (a1 : Int) (r : Int) (w : World) (hr0_1 : Kd.C k51 w A0_1 l0_1.length l0_1) (hc0_1 : l0_1.length ≤ c0_1) (h : spec_l4ById.f k a0_0 l0_1 a1 = some r) :
    Calls Try.prog 35 #[.agg #[.int .i64 a0_0, .slice A0_1 l0_1.length c0_1], .int .i64 a1] w fun e w' => e = .returned (.int .i64 r) ∧ Below w.heap.size w w' := by
  have hu29 := Try.underlying29
  have HR0_1 := Aside0.mk hr0_1
  have HC0_1 := Aside0.mk hc0_1
  clear hr0_1 hc0_1
  have HB := Aside0.mk (Below.refl w.heap.size w)
  have H : (spec_l4ById.l0 k a1 0 a0_0 l0_1) = some r := h
  clear h
  have H' := Aside0.mk H
  clear H
  go_enter Try.func35, Try.ntmps35
  go_wp2_with (first | ((with_reducible refine gate_dst (N := 2) rfl ?_); refine box_event ?hg (N := 2) ?hd (cs := #[.int .i64 a0_0, .slice A0_1 l0_1.length c0_1]) (t := 29) ?hr ?_; (case hd => rfl); (case hg => rfl); (case hr => first | (go_simp; done) | (go_simp; rfl)); intro gb338 hg w3 hbox hb; have n0_ := Aside0.mk (below_step (by repeat (first | (with_reducible first | exact HB.out | apply below_alloc | apply pw_below_drewN | apply below_drew1) | exact HB.out)) hb); have n1_ := Aside0.mk (hbox); have n2_ := Aside0.mk ((by rw [hg]; exact (below_size (by repeat (first | (with_reducible first | exact HB.out | apply below_alloc | apply pw_below_drewN | apply below_drew1) | exact HB.out))) : w.heap.size ≤ gb338)); have n3_ := Aside0.mk ((by rw [hg]; exact (below_size (by repeat (first | (with_reducible first | exact HB.out | apply below_alloc | apply pw_below_drewN | apply below_drew1) | exact HB.out))) : w.heap.size ≤ gb338)); clear HB; have HB := n0_; have BK338 := n1_; have GW338 := n2_; have GE338 := n3_; clear n0_ n1_ n2_ n3_; clear hb hbox hg))
  go_loopg [5] k (fun kq v5 w' => ∃ (x5_1 : Int), v5 = .int .i64 x5_1 ∧ Aside0 (spec_l4ById.l0 kq a1 x5_1 a0_0 l0_1 = some r) ∧ Aside0 (kq ≤ k) ∧ Aside0 (w'.heap[gb338]? = some (.cells #[.int .i64 a0_0, (.slice A0_1 l0_1.length c0_1)] 29 (0, 0))) ∧ Aside0 (Below w.heap.size w w'))
  case atStart => exact ⟨(0), (by first | rfl | (simp; done) | (simp [*]; done)), H', ⟨Nat.le_refl _⟩, ⟨by (with_reducible repeat (first | refine blk_drewN ?_ _ | refine blk_drew ?_ | refine blk_alloc ?_ _)); exact BK338.out⟩, ⟨by repeat (first | (with_reducible first | exact HB.out | apply below_alloc | apply pw_below_drewN | apply below_drew1 | refine below_set ?_ GE338.out) | exact HB.out)⟩⟩
  case round =>
    clear H'
    try clear p2
    try clear c3
    obtain ⟨x5_1, rfl, HA, HK1, BK338, HB⟩ := hrel
    cases gk with
    | zero => exact absurd HA.out (by simp [spec_l4ById.l0])
    | succ k1 =>
      have H := HA.out
      clear HA
      simp only [spec_l4ById.l0] at H
      by_cases c4 : x5_1 < (l0_1.length : Int)
      · rw [if_pos c4] at H
        have c4b0 : decide (x5_1 < (l0_1.length : Int)) = true := decide_eq_true c4
        clear c4
        by_cases c5 : 0 ≤ x5_1
        · rw [if_pos c5] at H
          have c5b0 : decide (0 ≤ x5_1) = true := decide_eq_true c5
          clear c5
          by_cases c6 : ((rd_T51 l0_1 x5_1).f0) = a1
          · rw [if_pos c6] at H
            have c6b0 : (((rd_T51 l0_1 x5_1).f0) == a1) = true := beq_iff_eq.mpr c6
            have c6b1 : (((rd_T51 l0_1 x5_1).f0) != a1) = false := bne_eq_false_iff_eq.mpr c6
            clear c6
            obtain rfl := Option.some.inj H
            have hcz7_0 : wr.cell? ⟨gb338, 0, none⟩ = some (.int .i64 a0_0) := (blk_cell BK338.out 0).trans rfl
            have hcz7_1 : wr.cell? ⟨gb338, 1, none⟩ = some (.slice A0_1 l0_1.length c0_1) := (blk_cell BK338.out 1).trans rfl
            have hfz7_0 := blk_frozen BK338.out 0
            have hfz7_1 := blk_frozen BK338.out 1
            have p339 : 0 ≤ (x5_1 : Int) := of_decide_eq_true (by first | (with_reducible assumption) | assumption)
            have q339 : x5_1 < (l0_1.length : Int) := of_decide_eq_true (by first | (with_reducible assumption) | assumption)
            obtain ⟨ad339, e339, hx339_0, hx339_1, hx339_2⟩ := at_T51 HR0_1.out x5_1 p339 q339
            cases e339
            replace hx339_0 := (HB.out.cell (World.block_lt_of_cell? w _ hx339_0)).trans hx339_0
            replace hx339_1 := (HB.out.cell (World.block_lt_of_cell? w _ hx339_1)).trans hx339_1
            replace hx339_2 := (HB.out.cell (World.block_lt_of_cell? w _ hx339_2)).trans hx339_2
            replace p339 := eq_true p339
            replace q339 := eq_true q339
            go_wp2
            go_ret
            exact ⟨by first | rfl | (simp [errW_none, errW_some] <;> rfl) | (simp [*, errW_none, errW_some] <;> rfl), by repeat (first | (with_reducible first | exact HB.out | apply below_alloc | apply pw_below_drewN | apply below_drew1 | refine below_set ?_ GE338.out) | exact HB.out)⟩
          · rw [if_neg c6] at H
            have c6b0 : (((rd_T51 l0_1 x5_1).f0) == a1) = false := beq_eq_false_iff_ne.mpr c6
            have c6b1 : (((rd_T51 l0_1 x5_1).f0) != a1) = true := bne_iff_ne.mpr c6
            have H' := Aside0.mk H
            clear H
            have hcz8_0 : wr.cell? ⟨gb338, 0, none⟩ = some (.int .i64 a0_0) := (blk_cell BK338.out 0).trans rfl
            have hcz8_1 : wr.cell? ⟨gb338, 1, none⟩ = some (.slice A0_1 l0_1.length c0_1) := (blk_cell BK338.out 1).trans rfl
            have hfz8_0 := blk_frozen BK338.out 0
            have hfz8_1 := blk_frozen BK338.out 1
            have p339 : 0 ≤ (x5_1 : Int) := of_decide_eq_true (by first | (with_reducible assumption) | assumption)
            have q339 : x5_1 < (l0_1.length : Int) := of_decide_eq_true (by first | (with_reducible assumption) | assumption)
            obtain ⟨ad339, e339, hx339_0, hx339_1, hx339_2⟩ := at_T51 HR0_1.out x5_1 p339 q339
            cases e339
            replace hx339_0 := (HB.out.cell (World.block_lt_of_cell? w _ hx339_0)).trans hx339_0
            replace hx339_1 := (HB.out.cell (World.block_lt_of_cell? w _ hx339_1)).trans hx339_1
            replace hx339_2 := (HB.out.cell (World.block_lt_of_cell? w _ hx339_2)).trans hx339_2
            replace p339 := eq_true p339
            replace q339 := eq_true q339
            go_wp2
            go_roundg k1
            case measure => have := HK1.out; omega
            case rel => exact ⟨(wrap64 (x5_1 + 1)), (by first | rfl | (simp; done) | (simp [*]; done)), H', ⟨by have := HK1.out; omega⟩, ⟨by (with_reducible repeat (first | refine blk_drewN ?_ _ | refine blk_drew ?_ | refine blk_alloc ?_ _)); exact BK338.out⟩, ⟨by repeat (first | (with_reducible first | exact HB.out | apply below_alloc | apply pw_below_drewN | apply below_drew1 | refine below_set ?_ GE338.out) | exact HB.out)⟩⟩
        · rw [if_neg c5] at H
          exact absurd H (by simp)
      · rw [if_neg c4] at H
        have c4b0 : decide (x5_1 < (l0_1.length : Int)) = false := decide_eq_false c4
        clear c4
        obtain rfl := Option.some.inj H
        have hcz9_0 : wr.cell? ⟨gb338, 0, none⟩ = some (.int .i64 a0_0) := (blk_cell BK338.out 0).trans rfl
        have hcz9_1 : wr.cell? ⟨gb338, 1, none⟩ = some (.slice A0_1 l0_1.length c0_1) := (blk_cell BK338.out 1).trans rfl
        have hfz9_0 := blk_frozen BK338.out 0
        have hfz9_1 := blk_frozen BK338.out 1
        go_wp2
        go_ret
        exact ⟨by first | rfl | (simp [errW_none, errW_some] <;> rfl) | (simp [*, errW_none, errW_some] <;> rfl), by repeat (first | (with_reducible first | exact HB.out | apply below_alloc | apply pw_below_drewN | apply below_drew1 | refine below_set ?_ GE338.out) | exact HB.out)⟩
end Go.Proofs.Ytneapgdfeegmgaa.PI
