-- Made by this session's program hyb.py out of the translation.
import Derived.Test.YtijklgenibffhaaPCrcx0
import Derived.Test.YtijklgenibffhaaPCrcx1
namespace Go.Proofs.Ytijklgenibffhaa.PCrc
open Go.RowKit Go.Proofs.YtijklgenibffhaaW.PrintWords Go.Proofs.YtijklgenibffhaaW.PrintLast Go.Proofs.YtijklgenibffhaaW.PrintMore
attribute [local go_sem] max2_int min2_int max_two min_two max_three min_three max_four min_four   -- for this text's walks alone
set_option linter.unusedVariables false
set_option linter.unusedSimpArgs false

/-! ### impl_Crc32: function 12, proved by hand -/
theorem wraps_u32 (n : Int) (h₀ : 0 ≤ n) (h₁ : n < 2 ^ 32) : IntKind.u32.wrap n = n := by rw [IntKind.wrap_u32]; omega
theorem and1 (x : Int) (h0 : 0 ≤ x) (h1 : x < 4294967296) : bits .and .u32 x 1 = x % 2 := bits_mask .u32 32 (by decide) wraps_u32 1 (by decide) x h0 h1
theorem andP0 : bits .and .u32 3988292384 0 = 0 := by decide +kernel
theorem andP1 : bits .and .u32 3988292384 4294967295 = 3988292384 := by decide +kernel
theorem xor0 (x : Int) (h0 : 0 ≤ x) (h1 : x < 4294967296) : bits .xor .u32 x 0 = x := by
  obtain ⟨n, rfl⟩ := Int.eq_ofNat_of_zero_le h0
  have e : (BitVec.ofInt IntKind.u32.bits (n : Int) ^^^ BitVec.ofInt IntKind.u32.bits 0) = BitVec.ofInt IntKind.u32.bits (n : Int) := by
    rw [show BitVec.ofInt IntKind.u32.bits 0 = 0#_ from rfl, BitVec.xor_zero]
  simp only [bits]
  rw [e, BitVec.ofInt_natCast, BitVec.toNat_ofNat, IntKind.wrap_u32]
  show ((n % 2 ^ 32 : Nat) : Int) % 4294967296 = n
  omega
theorem xor_comm (x y : Int) : bits .xor .u32 x y = bits .xor .u32 y x := by
  unfold bits; simp only [BitVec.xor_comm]
def crcSt (x : Int) : Int := if x % 2 = 1 then Go.bits .xor .u32 (x / 2) 3988292384 else x / 2
theorem crcStep (x : Int) (h0 : 0 ≤ x) (h1 : x < 4294967296) : bits .xor .u32 (x / 2) (bits .and .u32 3988292384 (-bits .and .u32 x 1 % 4294967296)) = crcSt x := by
  rw [and1 x h0 h1]
  unfold crcSt
  by_cases h : x % 2 = 1
  · rw [if_pos h, h, show (-1 : Int) % 4294967296 = 4294967295 from rfl, andP1]
  · have h' : x % 2 = 0 := by omega
    rw [if_neg h, h', show (-0 : Int) % 4294967296 = 0 from rfl, andP0, xor0 _ (by omega) (by omega)]
theorem crcSt_bd (x : Int) (h0 : 0 ≤ x) (h1 : x < 4294967296) : 0 ≤ crcSt x ∧ crcSt x < 4294967296 := by
  unfold crcSt
  split
  · have := bits_lo_u32 .xor (x / 2) 3988292384
    have := bits_hi_u32 .xor (x / 2) 3988292384
    omega
  · omega
def crcN : Nat → Int → Int
  | 0, x => x
  | n + 1, x => crcSt (crcN n x)
theorem crcN_bd (n : Nat) (x : Int) (h0 : 0 ≤ x) (h1 : x < 4294967296) : 0 ≤ crcN n x ∧ crcN n x < 4294967296 := by
  induction n with
  | zero => exact ⟨h0, h1⟩
  | succ n ih => exact crcSt_bd _ ih.1 ih.2
def crcT (l : List Int) (i : Nat) : Int := (l.take i).foldl (fun c b => crcN 8 (Go.bits .xor .u32 c (b % 4294967296))) 4294967295
theorem crcT_succ (l : List Int) (i : Nat) (h : i < l.length) : crcT l (i + 1) = crcN 8 (Go.bits .xor .u32 (crcT l i) (l.getD i 0 % 4294967296)) := by
  unfold crcT
  rw [List.take_succ_eq_append_getElem h, List.foldl_append]
  simp [List.getD_eq_getElem?_getD, h]
theorem crcIn_bd (c b : Int) (n : Nat) : 0 ≤ crcN n (Go.bits .xor .u32 c b) ∧ crcN n (Go.bits .xor .u32 c b) < 4294967296 := 
  crcN_bd n _ (bits_lo_u32 ..) (by have := bits_hi_u32 .xor c b; omega)
theorem crcSpec (l : List Int) (r : Int) (hL : l.length ≤ 9223372036854775807) : ∀ k,
    (∀ x (i : Nat), spec_Crc32.l0 k l x i = some r → i ≤ l.length → x = crcT l i → r = bits .xor .u32 (crcT l l.length) 4294967295) ∧
    (∀ x (i j : Nat), spec_Crc32.l1 k l x i j = some r → i < l.length → j ≤ 8 → x = crcN j (bits .xor .u32 (crcT l i) (l.getD i 0 % 4294967296)) → r = bits .xor .u32 (crcT l l.length) 4294967295)
  | 0 => ⟨fun x i h => by simp [spec_Crc32.l0] at h, fun x i j h => by simp [spec_Crc32.l1] at h⟩
  | k + 1 => by
    obtain ⟨ih0, ih1⟩ := crcSpec l r hL k
    constructor
    · intro x i h hi hx
      simp only [spec_Crc32.l0] at h
      by_cases c : (i : Int) < (l.length : Int)
      · rw [if_pos c, if_pos (by omega)] at h
        refine ih1 _ i 0 h (by omega) (by omega) ?_
        rw [hx]
        simp [crcN, rd]
      · rw [if_neg c] at h
        obtain rfl : i = l.length := by omega
        rw [← Option.some.inj h, hx]
    · intro x i j h hi hj hx
      simp only [spec_Crc32.l1] at h
      have hb := crcIn_bd (crcT l i) (l.getD i 0 % 4294967296) j
      rw [← hx] at hb
      by_cases c : (j : Int) < 8
      · rw [if_pos c] at h
        have ew : wrap64 ((j : Int) + 1) = ((j + 1 : Nat) : Int) := by unfold wrap64; omega
        rw [ew, Int.tmod_eq_emod_of_nonneg hb.1, Int.tdiv_eq_ediv_of_nonneg hb.1, Int.emod_eq_of_lt (a := x / 2) (by omega) (by omega)] at h
        by_cases c2 : x % 2 = 1
        · rw [if_pos c2] at h
          exact ih1 _ i (j + 1) h hi (by omega) (by rw [crcN, ← hx]; simp [crcSt, c2])
        · rw [if_neg c2] at h
          exact ih1 _ i (j + 1) h hi (by omega) (by rw [crcN, ← hx]; simp [crcSt, c2])
      · rw [if_neg c] at h
        have ew : wrap64 ((i : Int) + 1) = ((i + 1 : Nat) : Int) := by unfold wrap64; omega
        rw [ew] at h
        obtain rfl : j = 8 := by omega
        exact ih0 _ (i + 1) h (by omega) (by rw [crcT_succ l i hi, hx])
set_option maxHeartbeats 1000000 in
set_option maxRecDepth 100000 in
theorem impl_Crc32.calls (k : Nat) (A0 : Option Addr) (c0 : Nat) (l0 : List Int) (r : Int) (w : World) (hr0 : Kd.C (Kd.int .u8) w A0 l0.length l0) (hc0 : l0.length ≤ c0) (h : spec_Crc32.f k l0 = some r) :
    Calls Try.prog 12 #[.slice A0 l0.length c0] w fun e w' => e = .returned (.int .u32 r) ∧ Drawn0 w w' := by
  have HR0 := Aside0.mk hr0
  have HL : l0.length ≤ 9223372036854775807 := hr0.2.1
  have HF : Aside0 (bits .xor .u32 4294967295 (crcT l0 l0.length) = r) := ⟨by
    rw [(crcSpec l0 r HL k).1 _ 0 h (by omega) rfl, xor_comm]⟩
  have hs : IntKind.u32.signed = false := rfl
  have hm : IntKind.u32.max = 4294967295 := rfl
  clear hr0 hc0 h
  go_enter Try.func12, Try.ntmps12
  go_wp2
  go_loopg [3, 8] l0.length (fun kq v3 v8 w' => ∃ (c : Int) (i : Nat), v3 = .int .u32 c ∧ v8 = .int .i64 i ∧ kq + i = l0.length ∧ Aside0 (c = crcT l0 i) ∧ w' = w)
  case atStart => exact ⟨_, 0, rfl, rfl, rfl, ⟨rfl⟩, rfl⟩
  case round =>
    obtain ⟨c, i, rfl, rfl, hi, HC, rfl⟩ := hrel
    by_cases hlt : i < l0.length
    · have hlt' : (i : Int) < (l0.length : Int) := by omega
      have h0 : (0 : Int) ≤ (i : Int) := by omega
      obtain ⟨ad, e1, hx⟩ := Kd.at_int HR0.out i (by omega) (by omega)
      cases e1
      rw [Int.toNat_natCast] at hx
      replace h0 := eq_true h0
      replace hlt' := eq_true hlt'
      obtain ⟨g0, rfl⟩ : ∃ g0, gk = g0 + 1 := ⟨gk - 1, by omega⟩
      go_wp2
      go_loopg [3, 16] 8 (fun kq v3 v16 w' => ∃ (x : Int) (j : Nat), v3 = .int .u32 x ∧ v16 = .int .i64 j ∧ kq + j = 8 ∧ Aside0 (x = crcN j (Go.bits .xor .u32 c (rd l0 i % 4294967296))) ∧ w' = wr)
      case atStart => exact ⟨_, 0, rfl, rfl, rfl, ⟨rfl⟩, rfl⟩
      case round =>
        obtain ⟨x, j, rfl, rfl, hj, HX, rfl⟩ := hrel
        have hb := crcIn_bd c (rd l0 i % 4294967296) j
        rw [← HX.out] at hb
        by_cases hj8 : j < 8
        · have e := crcStep x hb.1 hb.2
          have E := Aside0.mk e
          clear e
          obtain ⟨hb0, hb1⟩ := hb
          go_wp2
          go_roundg (gk - 1)
          case measure => omega
          case rel => exact ⟨_, j + 1, rfl, by simp, by omega, ⟨by rw [E.out, crcN, ← HX.out]⟩, rfl⟩
        · clear hb
          go_wp2
          go_roundg g0
          case measure => omega
          case rel => exact ⟨_, i + 1, rfl, by simp, by omega, ⟨by rw [HX.out, crcT_succ l0 i hlt, ← HC.out, show j = 8 by omega]; rfl⟩, rfl⟩
    · go_wp2
      go_ret
      exact ⟨by rw [← HF.out, HC.out, show i = l0.length by omega]; rfl, Drawn0.refl _⟩


end Go.Proofs.Ytijklgenibffhaa.PCrc
