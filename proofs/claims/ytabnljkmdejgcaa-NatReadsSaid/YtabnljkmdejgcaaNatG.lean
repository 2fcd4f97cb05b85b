import Derived.Test.YtabnljkmdejgcaaNatF
import Derived.Laws.BitsAllLaws
namespace Go.Proofs.Ytabnljkmdejgcaa
open Go.RowKit Go.Proofs.YtabnljkmdejgcaaW.PrintWords Go.Proofs.YtabnljkmdejgcaaW.PrintLast Go.Proofs.YtabnljkmdejgcaaW.PrintMore
set_option linter.unusedVariables false
theorem bitLen_bl (x : Nat) (h : x < 18446744073709551616) : Lib.bitLen x = bl x := by
  by_cases h0 : x = 0
  · subst h0; rfl
  · obtain ⟨a, b, c⟩ := Lib.bitLenAux_bounds 64 x h h0
    have h1 : bl x ≤ Lib.bitLen x := (bl_le x _).2 c
    have h2 : ¬ bl x ≤ Lib.bitLen x - 1 := fun hh => by
      have := (bl_le x _).1 hh
      unfold Lib.bitLen at this
      omega
    unfold Lib.bitLen at *
    omega
set_option maxHeartbeats 4000000 in
set_option maxRecDepth 100000 in
theorem len32C (x : Int) (w : World) (h0 : 0 ≤ x) (h1 : x ≤ 4294967295) :
    Calls Try.prog 56 #[.int .u32 x] w fun e w' => e = .returned (.int .i64 (bl x.toNat)) ∧ w' = w := by
  rw [← bitLen_bl x.toNat (by omega)]
  have t9 := Try.underlying9
  by_cases g0 : x ≤ 255
  · have k1 : x ≤ 255 := by omega
    go_enter Try.func56, Try.ntmps56
    go_wp2
    go_ret
    refine ⟨congrArg Ending.returned (congrArg (Value.int IntKind.i64) ?_), rfl⟩
    have l := Lib.bitLen_le8' (x) (by omega) (by omega)
    rw [Lib.len8_of x (by omega) (by omega)]
    first | omega | (simp only [wrap64]; omega)
  by_cases g1 : x ≤ 65535
  · have k0 : 256 ≤ x := by omega
    have k1 : x / 256 ≤ 255 := by omega
    have k2 : 0 ≤ x / 256 := by omega
    go_enter Try.func56, Try.ntmps56
    go_wp2
    go_ret
    refine ⟨congrArg Ending.returned (congrArg (Value.int IntKind.i64) ?_), rfl⟩
    have l := Lib.bitLen_le8' (x / 256) (by omega) (by omega)
    have e : (x / 256).toNat = x.toNat / 256 := by omega
    have s := Lib.bitLen_shift8 x.toNat (by omega) (by omega)
    rw [e] at l
    rw [Lib.len8_of (x / 256) (by omega) (by omega), e]
    first | omega | (simp only [wrap64]; omega)
  by_cases g2 : x ≤ 16777215
  · have k0 : 65536 ≤ x := by omega
    have k1 : x / 65536 ≤ 255 := by omega
    have k2 : 0 ≤ x / 65536 := by omega
    go_enter Try.func56, Try.ntmps56
    go_wp2
    go_ret
    refine ⟨congrArg Ending.returned (congrArg (Value.int IntKind.i64) ?_), rfl⟩
    have l := Lib.bitLen_le8' (x / 65536) (by omega) (by omega)
    have e : (x / 65536).toNat = x.toNat / 65536 := by omega
    have s := Lib.bitLen_shift16 x.toNat (by omega) (by omega)
    rw [e] at l
    rw [Lib.len8_of (x / 65536) (by omega) (by omega), e]
    first | omega | (simp only [wrap64]; omega)
  have k0 : 16777216 ≤ x := by omega
  have k3 : 256 ≤ x / 65536 := by omega
  have k1 : x / 65536 / 256 ≤ 255 := by omega
  have k2 : 0 ≤ x / 65536 / 256 := by omega
  go_enter Try.func56, Try.ntmps56
  go_wp2
  go_ret
  refine ⟨congrArg Ending.returned (congrArg (Value.int IntKind.i64) ?_), rfl⟩
  have l := Lib.bitLen_le8' (x / 65536 / 256) (by omega) (by omega)
  have e : (x / 65536 / 256).toNat = x.toNat / 16777216 := by omega
  have s := Lib.bitLen_shift24 x.toNat (by omega) (by omega)
  rw [e] at l
  rw [Lib.len8_of (x / 65536 / 256) (by omega) (by omega), e]
  first | omega | (simp only [wrap64]; omega)
theorem bl_mul (u v k : Nat) (hu : u < 2 ^ k) (hv : 0 < v) : bl (u + 2 ^ k * v) = k + bl v := by
  have h1 : v < 2 ^ bl v := (bl_le v _).1 (Nat.le_refl _)
  have h2 : u + 2 ^ k * v < 2 ^ (k + bl v) := by
    rw [Nat.pow_add]
    have : 2 ^ k * (v + 1) ≤ 2 ^ k * 2 ^ bl v := Nat.mul_le_mul_left _ h1
    rw [Nat.mul_add] at this
    omega
  have h3 := (bl_le _ _).2 h2
  have h4 : bl v ≠ 0 := fun h => by
    have := (bl_le v 0).1 (by omega)
    simp at this; omega
  have h5 : ¬ bl (u + 2 ^ k * v) ≤ k + bl v - 1 := fun h => by
    have a := (bl_le _ _).1 h
    have b : ¬ v < 2 ^ (bl v - 1) := fun hh => by
      have := (bl_le v _).2 hh
      omega
    rw [show k + bl v - 1 = k + (bl v - 1) by omega, Nat.pow_add] at a
    have : 2 ^ k * 2 ^ (bl v - 1) ≤ 2 ^ k * v := Nat.mul_le_mul_left _ (by omega)
    omega
  omega
/-- The bits of digits whose last one is not 0. -/
theorem bl_snoc (m : List Int) (v : Nat) (hv : 0 < v) (h : rg BB m) : bl (vl BB (m ++ [(v : Int)])) = 32 * m.length + bl v := by
  rw [vl_snoc, Int.toNat_natCast]
  have h1 := vl_lt m h
  have e : BB ^ m.length = 2 ^ (32 * m.length) := by rw [Nat.pow_mul]
  rw [e] at h1 ⊢
  exact bl_mul _ _ _ h1 hv
set_option maxRecDepth 100000 in
set_option maxHeartbeats 400000 in
theorem natBits (A : Option Addr) (c : Nat) (x : List Int) (w : World) (h : Kd.C (Kd.int .u32) w A x.length x) (hc : x.length ≤ c) (hx : rg BB x) (hl : x.length ≤ 1000000000) :
    Calls Try.prog 38 #[.slice A x.length c] w fun e w' => e = .returned (.int .i64 (bl (vl BB x))) ∧ w = w' := by
  have HR := Aside0.mk h
  have HX := Aside0.mk hx
  have hs := (strip_pre x).2
  clear h hx
  have HS := Aside0.mk (dig_strip HX.out)
  have HC := Aside0.mk (C_strip HR.out)
  have HV := Aside0.mk (show vl BB (strip x) = vl BB x from vl_strip (by decide) x HX.out)
  obtain ⟨s, hsd⟩ : ∃ s, s = strip x := ⟨_, rfl⟩
  rw [← hsd] at HS HC HV hs
  have HD := Aside0.mk hsd
  cases hq : s with
  | nil =>
    have E := Aside0.mk (show bl (vl BB x) = 0 by rw [← HV.out, hq]; rfl)
    have e0 : (strip x).length = 0 := by rw [← hsd, hq]; rfl
    have E0 := Aside0.mk e0
    clear hsd hq e0
    go_enter Try.func38, Try.ntmps38
    go_wp2_with (go_at_call 46; refine (natBare _ _ _ _ HR.out hc).mono ?_; rw [E0.out]; rintro e w' ⟨rfl, rfl⟩)
    go_ret
    exact ⟨by rw [E.out]; rfl, rfl⟩
  | cons a l =>
    obtain ⟨m, v, hv, hm⟩ := strip_last x (by rw [← hsd, hq]; simp)
    rw [← hsd] at hm
    have hrg : rg BB s := by rw [HS.out]; exact rg_dig (by decide) _
    rw [hm] at hrg
    obtain ⟨hr1, hr2⟩ := rg_append.1 hrg
    obtain ⟨hv0, hv1⟩ := hr2 v (by simp)
    replace hv1 : v < 4294967296 := hv1
    obtain ⟨u, rfl⟩ := Int.eq_ofNat_of_zero_le hv0
    have E := Aside0.mk (show bl (vl BB x) = 32 * m.length + bl u by rw [← HV.out, hm]; exact bl_snoc m u (by omega) hr1)
    have hlen : s.length = m.length + 1 := by rw [hm]; simp
    have hk : m.length < s.length := by omega
    obtain ⟨ad, hA, hcell⟩ := C_num HC.out m.length hk
    have hget : s[m.length] = (u : Int) := by simp [hm]
    rw [hget] at hcell
    have e0 : (strip x).length = m.length + 1 := by rw [← hsd]; exact hlen
    have E0 := Aside0.mk e0
    have hb : bl u ≤ 32 := (bl_le u 32).2 (by omega)
    obtain ⟨bu, hbu⟩ : ∃ bu, bu = bl u := ⟨_, rfl⟩
    have HBU := Aside0.mk hbu
    rw [← hbu] at hb E
    clear hbu
    have H1 := Aside0.mk (show (u : Int) ≤ 4294967295 by omega)
    subst hA
    obtain ⟨n, hn⟩ : ∃ n, n = m.length := ⟨_, rfl⟩
    have hml : (n : Int) ≤ 1000000000 := by omega
    rw [← hn] at hcell E E0
    clear hq hsd hm hrg hr1 hr2 hv0 hv1 hget e0 hk hv hlen hs hl hn
    go_enter Try.func38, Try.ntmps38
    go_wp2_with fail
    refine (natBare _ _ _ _ HR.out hc).mono ?_
    rw [E0.out]
    rintro e w' ⟨rfl, rfl⟩
    go_wp2_with fail
    refine (len32C _ _ (by omega) H1.out).mono ?_
    rw [Int.toNat_natCast, ← HBU.out]
    rintro e w' ⟨rfl, rfl⟩
    go_wp2
    go_ret
    exact ⟨by rw [E.out]; go_num, rfl⟩
end Go.Proofs.Ytabnljkmdejgcaa
