import Derived.Test.YtabnljkmdejgcaaNatE
import Derived.Lib.BitFns
import Derived.Lib.ItoaNum
namespace Go.Proofs.Ytabnljkmdejgcaa
open Go.RowKit Go.Proofs.YtabnljkmdejgcaaW.PrintWords Go.Proofs.YtabnljkmdejgcaaW.PrintLast Go.Proofs.YtabnljkmdejgcaaW.PrintMore
set_option linter.unusedVariables false
/-- Bit i of a number (none below 0). -/
def bitI (n : Nat) (i : Int) : Bool := if 0 ≤ i then n.testBit i.toNat else false
/-- How many bits a number has. -/
def bl (n : Nat) : Nat := if n = 0 then 0 else Nat.log2 n + 1
theorem bl_le (n k : Nat) : bl n ≤ k ↔ n < 2 ^ k := by
  unfold bl
  by_cases h : n = 0
  · subst h; simp [Nat.pow_pos]
  · rw [if_neg h, Nat.succ_le_iff, Nat.log2_lt h]
theorem bl_eq (n k : Nat) (h1 : n < 2 ^ (k + 1)) (h2 : n.testBit k = true) : bl n = k + 1 := by
  have a := (bl_le n (k + 1)).2 h1
  have b : ¬ bl n ≤ k := fun h => by
    have := (bl_le n k).1 h
    rw [Nat.testBit_lt_two_pow this] at h2
    cases h2
  omega
theorem lt_pow_of_bit (n k : Nat) (h1 : n < 2 ^ (k + 1)) (h2 : n.testBit k = false) : n < 2 ^ k := by
  rcases Nat.lt_or_ge n (2 ^ k) with h | h
  · exact h
  · have : n.testBit k = true := by
      rw [Nat.testBit_eq_decide_div_mod_eq]
      have e : n / 2 ^ k = 1 := by
        apply Nat.div_eq_of_lt_le
        · omega
        · rw [Nat.pow_succ] at h1; omega
      simp [e]
    rw [this] at h2; cases h2
theorem bit_digit (N i : Nat) : N / 256 ^ (i / 8) % 256 / 2 ^ (i % 8) % 2 = N / 2 ^ i % 2 := by
  have e1 : (256 : Nat) ^ (i / 8) = 2 ^ (8 * (i / 8)) := by rw [Nat.pow_mul]
  have e3 : (256 : Nat) = 2 ^ (i % 8) * (2 * 2 ^ (7 - i % 8)) := by
    have : (256 : Nat) = 2 ^ 8 := rfl
    rw [this, ← Nat.pow_succ', ← Nat.pow_add]
    congr 1
    omega
  generalize hM : N / 256 ^ (i / 8) = M
  have h2 : M / 2 ^ (i % 8) = N / 2 ^ i := by
    rw [← hM, e1, Nat.div_div_eq_div_mul, ← Nat.pow_add]
    congr 2
    omega
  rw [← h2]
  conv => lhs; rw [e3]
  rw [Nat.mod_mul_right_div_self, Nat.mod_mul_right_mod]
set_option maxRecDepth 100000 in
set_option maxHeartbeats 400000 in
theorem refBit (A : Option Addr) (c : Nat) (x : List Int) (i : Int) (w : World) (h : Kd.C (Kd.int .u32) w A x.length x) (hx : rg BB x) (hl : x.length ≤ 1000000) (hi : i ≤ 9223372036854775807) :
    Calls Try.prog 20 #[.slice A x.length c, .int .i64 i] w fun e w' => e = .returned (.bool (bitI (vl BB x) i)) ∧ Below w.heap.size w w' := by
  have HR := Aside0.mk h
  have HX := Aside0.mk hx
  have HL := Aside0.mk hi
  clear h hx hi
  by_cases h0 : 0 ≤ i
  · obtain ⟨m, rfl⟩ := Int.eq_ofNat_of_zero_le h0
    have E0 := Aside0.mk (show bitI (vl BB x) (m : Int) = (vl BB x).testBit m by simp [bitI])
    clear h0
    go_enter Try.func20, Try.ntmps20
    go_wp2_with fail
    refine (refDigits _ _ _ _ HR.out HX.out hl).mono ?_; rintro e w1 ⟨D, A1, c1, rfl, N1, HO1, HB1⟩
    have HG := Aside0.mk (show rg 256 D by rw [N1.out]; exact rg_dig (by decide) _)
    have hD : D.length ≤ 4000000 := by rw [N1.out]; have := digits_len x HX.out; omega
    have HV := Aside0.mk (show vl 256 D = vl BB x by rw [N1.out, vl_dig (by decide)])
    by_cases hin : m / 8 < D.length
    · obtain ⟨ad, rfl, hcell⟩ := C_num (Kd.R_reads' HO1.out).2.2 (m / 8) hin
      have hat := vl_at (b := 256) (by decide) D HG.out (m / 8) hin
      obtain ⟨q, hq⟩ : ∃ q : Nat, q = vl 256 D / 256 ^ (m / 8) % 256 := ⟨_, rfl⟩
      rw [← hq] at hat
      rw [hat] at hcell
      have hq2 : q ≤ 255 := by rw [hq]; have := Nat.mod_lt (vl 256 D / 256 ^ (m / 8)) (show 0 < 256 by decide); omega
      have HQ := Aside0.mk (show q / 2 ^ (m % 8) % 2 = vl BB x / 2 ^ m % 2 by rw [hq, HV.out, bit_digit])
      have hm8 : (m : Int) / 8 < D.length := by omega
      have hml := HL.out
      clear hq hat
      go_wp2
      clear hml
      go_loop [6, 7] (fun v6 v7 => ∃ (j u : Nat), j ≤ m % 8 ∧ v7 = .int .i64 j ∧ v6 = .int .i64 u ∧ u ≤ 255 ∧ Aside0 (u = q / 2 ^ j)) (fun _ v7 => m % 8 - (intOf v7).toNat)
      case atStart => exact ⟨0, q, Nat.zero_le _, rfl, rfl, hq2, ⟨by simp⟩⟩
      case round =>
        obtain ⟨j, u, hj, rfl, rfl, hu, HU⟩ := hrel
        have hj8 : j ≤ 7 := by omega
        by_cases hlt : j < m % 8
        · have hlt2 : (j : Int) < (m : Int) % 8 := by omega
          go_wp2
          go_round
          case rel => exact ⟨j + 1, u / 2, by omega, by go_num, by go_num, by omega, ⟨by rw [HU.out, Nat.div_div_eq_div_mul, ← Nat.pow_succ]⟩⟩
          case measure => simp [intOf]; omega
        · have ej : j = m % 8 := by omega
          have hlt2 : ¬ ((j : Int) < (m : Int) % 8) := by omega
          have E1 := Aside0.mk (show (vl BB x).testBit m = decide (u % 2 = 1) by rw [Nat.testBit_eq_decide_div_mod_eq, ← HQ.out, ← ej, ← HU.out])
          clear ej
          go_wp2
          go_ret
          refine ⟨?_, HB1.out⟩
          rw [E0.out, E1.out]
          have e : ((u : Int) % 2 == 1) = decide (u % 2 = 1) := by
            rw [Bool.eq_iff_iff]; simp; omega
          show Ending.returned (Value.bool ((u : Int) % 2 == 1)) = _
          rw [e]
    · have HT := Aside0.mk (show (vl BB x).testBit m = false by
        refine Nat.testBit_lt_two_pow (Nat.lt_of_lt_of_le (vl_lt D HG.out |> (HV.out ▸ ·)) ?_)
        rw [show (256 : Nat) = 2 ^ 8 from rfl, ← Nat.pow_mul]
        exact Nat.pow_le_pow_right (by decide) (by omega))
      have hm8 : (D.length : Int) ≤ (m : Int) / 8 := by omega
      have hml := HL.out
      go_wp2
      go_ret
      exact ⟨by rw [E0.out, HT.out]; rfl, HB1.out⟩
  · have E0 := Aside0.mk (show bitI (vl BB x) i = false by simp [bitI, h0])
    have h0 : i < 0 := by omega
    go_enter Try.func20, Try.ntmps20
    go_wp2_with (go_at_call 14; refine (refDigits _ _ _ _ HR.out HX.out hl).mono ?_; rintro e w1 ⟨D, A1, c1, rfl, N1, HO1, HB1⟩)
    go_ret
    exact ⟨by rw [E0.out]; rfl, HB1.out⟩
set_option maxRecDepth 100000 in
set_option maxHeartbeats 400000 in
theorem refBits (A : Option Addr) (c : Nat) (x : List Int) (w : World) (h : Kd.C (Kd.int .u32) w A x.length x) (hx : rg BB x) (hl : x.length ≤ 1000000) :
    Calls Try.prog 19 #[.slice A x.length c] w fun e w' => e = .returned (.int .i64 (bl (vl BB x))) ∧ Below w.heap.size w w' := by
  have HR := Aside0.mk h
  have HX := Aside0.mk hx
  clear h hx
  go_enter Try.func19, Try.ntmps19
  go_wp2_with (go_at_call 14; refine (refDigits _ _ _ _ HR.out HX.out hl).mono ?_; rintro e w1 ⟨D, A1, c1, rfl, N1, HO1, HB1⟩; have hDl : D.length ≤ 4000000 := (by rw [N1.out]; have := digits_len x HX.out; omega))
  have H8 := Aside0.mk (show vl BB x < 2 ^ (8 * D.length) by
    have h1 := vl_lt D (by rw [N1.out]; exact rg_dig (by decide) _)
    rw [N1.out, vl_dig (by decide), ← N1.out, show (256 : Nat) = 2 ^ 8 from rfl, ← Nat.pow_mul] at h1
    exact h1)
  go_loopw [4, 5] (fun v4 v5 wr => ∃ k : Nat, k ≤ 8 * D.length ∧ v4 = .int .i64 k ∧ Aside0 (vl BB x < 2 ^ k) ∧ Aside0 (Below w.heap.size w wr)) (fun v4 _ _ => (intOf v4).toNat)
  case atStart => exact ⟨8 * D.length, Nat.le_refl _, by go_num, H8, HB1⟩
  case round =>
    obtain ⟨k, hk, rfl, HK, HB⟩ := hrel
    cases k with
    | zero =>
      have E := Aside0.mk (show bl (vl BB x) = 0 by have h1 := (bl_le (vl BB x) 0).2 HK.out; omega)
      go_wp2
      go_ret
      exact ⟨by rw [E.out]; rfl, HB.out⟩
    | succ k =>
      have hk2 : (k : Int) ≤ 32000000 := by omega
      by_cases hb : (vl BB x).testBit k = true
      · have E := Aside0.mk (bl_eq _ _ HK.out hb)
        have EB := Aside0.mk (show bitI (vl BB x) ((k : Int)) = true by simp [bitI, hb])
        clear hb
        go_wp2_with fail
        refine (refBit _ _ _ _ _ (Kd.C_below HR.out HB.out) HX.out hl (by omega)).mono ?_
        rw [EB.out]
        rintro e w2 ⟨rfl, hb2⟩
        have HB2 := Aside0.mk (below_step HB.out hb2)
        clear hb2
        go_wp2
        go_ret
        exact ⟨by rw [E.out]; go_num, HB2.out⟩
      · have hb : (vl BB x).testBit k = false := by simpa using hb
        have E := Aside0.mk (lt_pow_of_bit _ _ HK.out hb)
        have EB := Aside0.mk (show bitI (vl BB x) ((k : Int)) = false by simp [bitI, hb])
        clear hb
        go_wp2_with fail
        refine (refBit _ _ _ _ _ (Kd.C_below HR.out HB.out) HX.out hl (by omega)).mono ?_
        rw [EB.out]
        rintro e w2 ⟨rfl, hb2⟩
        have HB2 := Aside0.mk (below_step HB.out hb2)
        clear hb2
        go_wp2
        go_roundw
        case rel => exact ⟨k, by omega, by go_num, E, HB2⟩
        case measure => simp [intOf]
end Go.Proofs.Ytabnljkmdejgcaa
