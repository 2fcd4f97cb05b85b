import Derived.Test.YtabnljkmdejgcaaNatC
namespace Go.Proofs.Ytabnljkmdejgcaa
open Go.RowKit Go.Proofs.YtabnljkmdejgcaaW.PrintWords Go.Proofs.YtabnljkmdejgcaaW.PrintLast Go.Proofs.YtabnljkmdejgcaaW.PrintMore
set_option linter.unusedVariables false
theorem vl_ge {b : Nat} (hb : 2 ≤ b) (l : List Int) (h : rg b l) (p : Nat) (hp : l.length ≤ p) : vl b l / b ^ p = 0 :=
  Nat.div_eq_of_lt (Nat.lt_of_lt_of_le (vl_lt l h) (Nat.pow_le_pow_right (by omega) hp))
theorem chunk_step (N : Nat) (i j : Nat) : N / 256 ^ (i + j) % 256 ^ (4 - j) = 256 * (N / 256 ^ (i + j + 1) % 256 ^ (4 - j - 1)) + N / 256 ^ (i + j) % 256 ∨ 4 ≤ j := by
  rcases Nat.lt_or_ge j 4 with h | h
  · left
    have := mod_step N 256 (i + j) (4 - j - 1)
    rwa [show 4 - j - 1 + 1 = 4 - j by omega] at this
  · right; exact h
theorem limb_of (N k : Nat) : N / 256 ^ (4 * k + 0) % 256 ^ (4 - 0) = N / 4294967296 ^ k % 4294967296 := by
  rw [Nat.add_zero, Nat.pow_mul]
set_option maxRecDepth 100000 in
set_option maxHeartbeats 1000000 in
theorem refLimbs (A : Option Addr) (c : Nat) (l : List Int) (w : World) (h : Kd.C (Kd.int .i64) w A l.length l) (hc : l.length ≤ c) (hx : rg 256 l) (hl : l.length ≤ 10000000) :
    Calls Try.prog 24 #[.slice A l.length c] w (RetS (Kd.int .u32) 60 w (dig BB (vl 256 l))) := by
  have HR := Aside0.mk h
  have HX := Aside0.mk hx
  have hs := (strip_pre l).2
  clear h hx
  go_enter Try.func24, Try.ntmps24
  go_wp2_with (go_at_call 47; refine (refShort _ _ _ _ HR.out hc).mono ?_; rintro e w' ⟨rfl, rfl⟩)
  obtain ⟨s, hsd⟩ : ∃ s, s = strip l := ⟨_, rfl⟩
  have HC := Aside0.mk (C_stripI HR.out)
  rw [← hsd] at HC hs ⊢
  have HS := Aside0.mk (show s = dig 256 (vl 256 l) by rw [hsd, strip_vl (by decide) _ HX.out])
  obtain ⟨N, hN⟩ : ∃ N, N = vl 256 l := ⟨_, rfl⟩
  have HN := Aside0.mk hN
  rw [← hN] at HS ⊢
  have HV := Aside0.mk (show vl 256 s = N by rw [HS.out, vl_dig (by decide)])
  have HG := Aside0.mk (show rg 256 s by rw [HS.out]; exact rg_dig (by decide) _)
  clear hsd hN HR HX
  go_loopw [3, 4, 5, 6] (fun v3 v4 v5 v6 wr => ∃ (k : Nat) (Y : List Int) (Ao : Option Addr) (co : Nat), 4 * k < s.length + 4 ∧ v4 = .int .i64 (4 * (k : Int)) ∧ v3 = .slice Ao Y.length co ∧ Y.length = k ∧ Aside0 (Y = dk BB N k) ∧ Aside0 ((Kd.int .u32).R 60 wr w.heap.size (fun _ => True) (.slice Ao Y.length co) Y) ∧ Aside0 (Below w.heap.size w wr)) (fun _ v4 _ _ _ => s.length + 4 - (intOf v4).toNat)
  case atStart => exact ⟨0, [], none, 0, by omega, rfl, rfl, rfl, ⟨rfl⟩, ⟨Kd.R_nil _ _ _ _ _⟩, ⟨Below.refl _ _⟩⟩
  case round =>
    obtain ⟨k, Y, Ao, co, hk, rfl, rfl, hY, HY, HO, HB⟩ := hrel
    by_cases hlt : 4 * k < s.length
    · go_wp2
      go_loopw [5, 6] (fun v5 v6 wr' => ∃ (j u : Nat), j ≤ 4 ∧ v6 = .int .i64 ((j : Int) - 1) ∧ v5 = .int .i64 u ∧ u ≤ 4294967295 ∧ Aside0 (u = N / 256 ^ (4 * k + j) % 256 ^ (4 - j)) ∧ wr' = wr) (fun _ v6 _ => (intOf v6 + 1).toNat)
      case atStart => exact ⟨4, 0, by omega, rfl, rfl, by omega, ⟨by simp [Nat.mod_one]⟩, rfl⟩
      case round =>
        obtain ⟨j, u, hj, rfl, rfl, hu, HU, rfl⟩ := hrel
        cases j with
        | zero =>
          have hu2 : (u : Int) ≤ 4294967295 := by omega
          clear hu
          go_wp2_with (first
            | ((with_reducible refine gate_builtin (b := .append) (xs := #[.tmp 35, .tmp 38]) rfl ?_); at_builtin; refine Kd.R_append (Kd.int .u32) (w0 := w) w.heap.size rfl (.tmp 35) (.tmp 38) 23 60 (.int .u32 0) 4 rfl Try.underlying23 info_u32 rfl (by decide) (by omega) _ Y (u : Int) [.int .u32 (u : Int)] (fun _ => True) (fun _ => False) rfl rfl rfl (fun _ hk => hk.elim) (fun _ _ => trivial) HO.out HB.out HB.out.size (by (omega)) ?_; intro v_ w_ ho hb hg_ hat_; clear hg_ hat_; obtain ⟨y7, A7, c7, rfl, N7, HO7⟩ := R_open ho; have HB7 := Aside0.mk hb; clear ho hb))
          go_roundw
          case rel => exact ⟨k + 1, y7, A7, c7, by omega, by go_num, rfl, by rw [N7.out]; simp; omega, ⟨by rw [N7.out, HY.out, dk, HU.out, limb_of]⟩, HO7, HB7⟩
          case measure => simp [intOf]; omega
        | succ j =>
          have hst := (chunk_step N (4 * k) j).resolve_right (by omega)
          have hu3 : 256 * u ≤ 4294967295 := by
            have h1 : N / 256 ^ (4 * k + j) % 256 ^ (4 - j) < 256 ^ (4 - j) := Nat.mod_lt _ (Nat.pow_pos (by decide))
            have h2 : 256 ^ (4 - j) ≤ 256 ^ 4 := Nat.pow_le_pow_right (by decide) (by omega)
            have h3 : N / 256 ^ (4 * k + j + 1) % 256 ^ (4 - j - 1) = u := by rw [HU.out]; rfl
            rw [h3] at hst
            have h4 : (256 : Nat) ^ 4 = 4294967296 := rfl
            omega
          by_cases hin : 4 * k + j < s.length
          · obtain ⟨ad, rfl, hcell⟩ := C_num (Kd.C_below HC.out HB.out) (4 * k + j) hin
            have hat := vl_at (b := 256) (by decide) s HG.out (4 * k + j) hin
            rw [HV.out] at hat
            obtain ⟨q, hq⟩ : ∃ q : Nat, q = N / 256 ^ (4 * k + j) % 256 := ⟨_, rfl⟩
            rw [← hq] at hat hst
            have hq2 : q ≤ 255 := by rw [hq]; have := Nat.mod_lt (N / 256 ^ (4 * k + j)) (show 0 < 256 by decide); omega
            rw [hat] at hcell
            have E := Aside0.mk (show 256 * u + q = N / 256 ^ (4 * k + j) % 256 ^ (4 - j) by rw [hst, HU.out]; rfl)
            have H3 := Aside0.mk (show 256 * u + q ≤ 4294967295 by
              have h1 : N / 256 ^ (4 * k + j) % 256 ^ (4 - j) < 256 ^ (4 - j) := Nat.mod_lt _ (Nat.pow_pos (by decide))
              have h2 : 256 ^ (4 - j) ≤ 256 ^ 4 := Nat.pow_le_pow_right (by decide) (by omega)
              have h4 : (256 : Nat) ^ 4 = 4294967296 := rfl
              have := E.out
              omega)
            clear hst hat hq hu
            go_wp2
            go_roundw
            case rel => exact ⟨j, 256 * u + q, by omega, by go_num, by go_num, H3.out, E, trivial⟩
            case measure => simp [intOf]
          · have hz : N / 256 ^ (4 * k + j) % 256 = 0 := by
              rw [← HV.out, vl_ge (by decide) s HG.out _ (by omega)]
            have E := Aside0.mk (show 256 * u = N / 256 ^ (4 * k + j) % 256 ^ (4 - j) by rw [hst, HU.out, hz]; rfl)
            have H3 := Aside0.mk hu3
            clear hst hz hu
            go_wp2
            go_roundw
            case rel => exact ⟨j, 256 * u, by omega, by go_num, by go_num, H3.out, E, trivial⟩
            case measure => simp [intOf]
    · have hlt2 : decide (4 * (k : Int) < (s.length : Int)) = false := by simp; omega
      go_wp2
      go_ret
      exact RetS.of (by rw [HY.out, dig_limbs (by rw [← HS.out]; omega) (by rw [← HS.out]; omega), HN.out]) HO.out HB.out
end Go.Proofs.Ytabnljkmdejgcaa
