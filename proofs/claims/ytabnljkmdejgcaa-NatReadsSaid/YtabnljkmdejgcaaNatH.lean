import Derived.Test.YtabnljkmdejgcaaNatG
namespace Go.Proofs.Ytabnljkmdejgcaa
open Go.RowKit Go.Proofs.YtabnljkmdejgcaaW.PrintWords Go.Proofs.YtabnljkmdejgcaaW.PrintLast Go.Proofs.YtabnljkmdejgcaaW.PrintMore
set_option linter.unusedVariables false
theorem reps2s {R : Int → List Value → Prop} {x y : Int} {u v : Value} (h1 : R x [u]) (h2 : R y [v]) : Reps R 1 [x, y] [u, v] :=
  Reps.snoc (Reps.snoc (Reps.none R 1) h1 rfl) h2 rfl
theorem vl_two (n : Nat) (h : n < 18446744073709551616) : vl BB [((n % 4294967296 : Nat) : Int), ((n / 4294967296 : Nat) : Int)] = n := by
  simp only [vl, Int.toNat_natCast]
  have := Nat.div_add_mod n 4294967296
  show n % 4294967296 + 4294967296 * (n / 4294967296 + 4294967296 * 0) = n
  omega
set_option maxRecDepth 100000 in
set_option maxHeartbeats 400000 in
theorem natOf (n : Nat) (w : World) (h : n < 18446744073709551616) :
    Calls Try.prog 21 #[.int .u64 n] w (RetS (Kd.int .u32) 60 w (dig BB n)) := by
  have H := Aside0.mk h
  have HB := Aside0.mk (Below.refl w.heap.size w)
  have hn : (n : Int) ≤ 18446744073709551615 := by omega
  clear h
  go_enter Try.func21, Try.ntmps21
  go_wp2_with (first
    | ((with_reducible refine gate_dst (N := 8) rfl ?_); refine Kd.R_lit (Kd.int .u32) (w0 := w) w.heap.size 60 ?hg (N := 8) ?hd (xs := [((n % 4294967296 : Nat) : Int), ((n / 4294967296 : Nat) : Int)]) (inner := [.int .u32 ((n % 4294967296 : Nat) : Int), .int .u32 ((n / 4294967296 : Nat) : Int)]) (ok := fun _ => True) (okp := fun _ => True) ?hr ?hp (fun _ hk => hk) trivial HB.out HB.out.size (by simp) ?_; (case hd => rfl); (case hg => rfl); (case hr => first | (go_simp; done) | (go_simp; rfl)); (case hp => exact (reps2s rfl rfl)); intro v_ w_ ho hb hg_ hat_; clear hat_; obtain ⟨y8, A8, c8, rfl, N8, HO8⟩ := R_open ho; have HB8 := Aside0.mk hb; have HG8 := Aside0.mk (below_grown0 hg_); clear ho hb hg_)
    | (go_at_call 46; refine (natBare _ _ _ _ (Kd.R_reads' HO8.out).2.2 (Kd.R_reads' HO8.out).2.1).mono ?_; rintro e w' ⟨rfl, rfl⟩))
  go_ret
  have hv : vl BB y8 = n := by rw [N8.out, vl_two n H.out]
  have hr : rg BB y8 := by
    rw [N8.out]
    have h1 := H.out
    have h2 := Nat.mod_lt n (show 0 < 4294967296 by decide)
    refine rg_cons.2 ⟨⟨by omega, ?_⟩, rg_cons.2 ⟨⟨by omega, ?_⟩, rg_nil _⟩⟩
    · show ((n % 4294967296 : Nat) : Int) < (4294967296 : Int); omega
    · show ((n / 4294967296 : Nat) : Int) < (4294967296 : Int); omega
  exact RetS.of (by rw [dig_strip hr, hv]) (R_strip HO8.out) HB8.out
theorem bit_base (k N i : Nat) (hk : 0 < k) : N / (2 ^ k) ^ (i / k) % 2 ^ k / 2 ^ (i % k) % 2 = N / 2 ^ i % 2 := by
  have hm := Nat.mod_lt i hk
  have hd := Nat.div_add_mod i k
  have e1 : (2 ^ k : Nat) ^ (i / k) = 2 ^ (k * (i / k)) := by rw [Nat.pow_mul]
  have e3 : (2 : Nat) ^ k = 2 ^ (i % k) * (2 * 2 ^ (k - 1 - i % k)) := by
    rw [← Nat.pow_succ', ← Nat.pow_add]
    congr 1
    omega
  generalize hM : N / (2 ^ k) ^ (i / k) = M
  have h2 : M / 2 ^ (i % k) = N / 2 ^ i := by
    rw [← hM, e1, Nat.div_div_eq_div_mul, ← Nat.pow_add, hd]
  rw [← h2]
  conv => lhs; rw [e3]
  rw [Nat.mod_mul_right_div_self, Nat.mod_mul_right_mod]
theorem bit_limb (N i : Nat) : N / BB ^ (i / 32) % BB / 2 ^ (i % 32) % 2 = N / 2 ^ i % 2 := bit_base 32 N i (by decide)
theorem and_one (q : Nat) (h : q < 4294967296) : (bits .and .u32 (q : Int) 1 == 1) = decide (q % 2 = 1) := by
  have h1 := u32_and_nat q 1 h (by decide)
  rw [Nat.and_one_is_mod] at h1
  rw [show ((1 : Nat) : Int) = 1 from rfl] at h1
  rw [h1, Bool.eq_iff_iff]
  simp; omega
set_option maxRecDepth 100000 in
set_option maxHeartbeats 400000 in
theorem natBit (A : Option Addr) (c : Nat) (x : List Int) (i : Int) (w : World) (h : Kd.C (Kd.int .u32) w A x.length x) (hx : rg BB x) (hl : x.length ≤ 1000000000) (hi : i ≤ 9223372036854775807) :
    Calls Try.prog 39 #[.slice A x.length c, .int .i64 i] w fun e w' => e = .returned (.bool (bitI (vl BB x) i)) ∧ w = w' := by
  have HR := Aside0.mk h
  have HX := Aside0.mk hx
  have HL := Aside0.mk hi
  clear h hx hi
  by_cases h0 : 0 ≤ i
  · obtain ⟨m, rfl⟩ := Int.eq_ofNat_of_zero_le h0
    have E0 := Aside0.mk (show bitI (vl BB x) (m : Int) = (vl BB x).testBit m by simp [bitI])
    clear h0
    by_cases hin : m / 32 < x.length
    · obtain ⟨ad, rfl, hcell⟩ := C_num HR.out (m / 32) hin
      have hat := vl_at (b := BB) (by decide) x HX.out (m / 32) hin
      obtain ⟨q, hq⟩ : ∃ q : Nat, q = vl BB x / BB ^ (m / 32) % BB := ⟨_, rfl⟩
      rw [← hq] at hat
      rw [hat] at hcell
      have HQ2 := Aside0.mk (show q < 4294967296 by rw [hq]; exact Nat.mod_lt _ (by decide))
      have HQ := Aside0.mk (show q / 2 ^ (m % 32) % 2 = vl BB x / 2 ^ m % 2 by rw [hq, bit_limb])
      have hm8 : (m : Int) / 32 < x.length := by omega
      have hml := HL.out
      clear hat hq
      go_enter Try.func39, Try.ntmps39
      go_wp2
      go_ret
      refine ⟨?_, rfl⟩
      have e1 := and_one (q / 2 ^ (m % 32)) (Nat.lt_of_le_of_lt (Nat.div_le_self _ _) HQ2.out)
      have e2 : ((q / 2 ^ (m % 32) : Nat) : Int) = (q : Int) / 2 ^ (m % 32) := by norm_cast
      rw [e2] at e1
      show Ending.returned (Value.bool (bits BinOp.and IntKind.u32 ((q : Int) / 2 ^ (m % 32)) 1 == 1)) = _
      rw [e1, HQ.out, E0.out, Nat.testBit_eq_decide_div_mod_eq]
    · have HT := Aside0.mk (show (vl BB x).testBit m = false by
        refine Nat.testBit_lt_two_pow (Nat.lt_of_lt_of_le (vl_lt x HX.out) ?_)
        rw [show (BB : Nat) = 2 ^ 32 from rfl, ← Nat.pow_mul]
        exact Nat.pow_le_pow_right (by decide) (by omega))
      have hm8 : (x.length : Int) ≤ (m : Int) / 32 := by omega
      have hml := HL.out
      go_enter Try.func39, Try.ntmps39
      go_wp2
      go_ret
      exact ⟨by rw [E0.out, HT.out]; rfl, rfl⟩
  · have E0 := Aside0.mk (show bitI (vl BB x) i = false by simp [bitI, h0])
    have h0 : i < 0 := by omega
    go_enter Try.func39, Try.ntmps39
    go_wp2
    go_ret
    exact ⟨by rw [E0.out]; rfl, rfl⟩
/-- A number of 64 bits, and whether it is one. -/
def u64N (n : Nat) : Nat := if n < 18446744073709551616 then n else 0
theorem or_shift (a v k : Nat) (ha : a < 2 ^ k) : a ||| v * 2 ^ k = a + v * 2 ^ k := by
  rw [Nat.or_comm, Nat.mul_comm, ← Nat.two_pow_add_eq_or_of_lt ha, Nat.add_comm]
theorem pow_BB (k : Nat) : BB ^ k = 2 ^ (32 * k) := by rw [Nat.pow_mul]
theorem or_u64 (n v k : Nat) (hn : n < BB ^ k) (hv : v ≤ 4294967295) (hk : k ≤ 1) : bits .or .u64 (n : Int) (IntKind.u64.wrap ((v : Int) * 2 ^ (32 * k))) = ((n + v * 2 ^ (32 * k) : Nat) : Int) := by
  rw [pow_BB] at hn
  have h1 : (2 : Nat) ^ (32 * k) ≤ 4294967296 := by
    have : 2 ^ (32 * k) ≤ 2 ^ 32 := Nat.pow_le_pow_right (by decide) (by omega)
    exact this
  have h2 : v * 2 ^ (32 * k) ≤ 4294967295 * 4294967296 := Nat.mul_le_mul hv h1
  have e1 : (v : Int) * 2 ^ (32 * k) = ((v * 2 ^ (32 * k) : Nat) : Int) := by norm_cast
  have e2 : IntKind.u64.wrap ((v * 2 ^ (32 * k) : Nat) : Int) = ((v * 2 ^ (32 * k) : Nat) : Int) := IntWalk.u64_in _ (by omega)
  rw [e1, e2, u64_or_nat _ _ (by omega) (by omega), or_shift _ _ _ hn]
set_option maxRecDepth 100000 in
set_option maxHeartbeats 400000 in
theorem natUint (A : Option Addr) (c : Nat) (x : List Int) (w : World) (h : Kd.C (Kd.int .u32) w A x.length x) (hc : x.length ≤ c) (hx : rg BB x) (hl : x.length ≤ 1000000000) :
    Calls Try.prog 18 #[.slice A x.length c] w fun e w' => e = .returned (.tuple #[.int .u64 (u64N (vl BB x)), .bool (decide (vl BB x < 18446744073709551616))]) ∧ w = w' := by
  have HR := Aside0.mk h
  have HX := Aside0.mk hx
  clear h hx
  have HS := Aside0.mk (dig_strip HX.out)
  have HC := Aside0.mk (C_strip HR.out)
  have HV := Aside0.mk (show vl BB (strip x) = vl BB x from vl_strip (by decide) x HX.out)
  obtain ⟨s, hsd⟩ : ∃ s, s = strip x := ⟨_, rfl⟩
  rw [← hsd] at HS HC HV
  have HG := Aside0.mk (show rg BB s by rw [HS.out]; exact rg_dig (by decide) _)
  have HF := Aside0.mk (show s.length ≤ 2 ↔ vl BB x < 18446744073709551616 by rw [HS.out]; exact dig_len (by decide) _ 2)
  have HD := Aside0.mk hsd
  clear hsd
  by_cases h2 : s.length ≤ 2
  · have hlt := HF.out.1 h2
    have E := Aside0.mk (show u64N (vl BB x) = vl BB x from if_pos hlt)
    have E2 := Aside0.mk (decide_eq_true hlt)
    have hm : s.length ≤ 2 := h2
    clear hlt
    go_enter Try.func18, Try.ntmps18
    go_wp2_with (go_at_call 46; refine (natBare _ _ _ _ HR.out hc).mono ?_; rw [← HD.out]; rintro e w' ⟨rfl, rfl⟩)
    go_loop [4, 5, 6, 14] (fun v4 v5 v6 v14 => ∃ (k n : Nat), k ≤ s.length ∧ v14 = .int .i64 k ∧ v4 = .int .u64 n ∧ Aside0 (n = vl BB (s.take k))) (fun _ _ _ v14 => s.length - (intOf v14).toNat)
    case atStart => exact ⟨0, 0, Nat.zero_le _, rfl, rfl, ⟨rfl⟩⟩
    case round =>
      obtain ⟨k, n, hk, rfl, rfl, HN⟩ := hrel
      by_cases hlt : k < s.length
      · obtain ⟨ad, rfl, hcell⟩ := C_num HC.out k hlt
        obtain ⟨hv0, hv1⟩ := HG.out s[k] (List.getElem_mem hlt)
        replace hv1 : s[k] < 4294967296 := hv1
        have hst := vl_snoc BB (s.take k) s[k]
        rw [← List.take_succ_eq_append_getElem hlt, ← HN.out] at hst
        obtain ⟨v, hv⟩ : ∃ v : Nat, s[k] = (v : Int) := ⟨s[k].toNat, by omega⟩
        rw [hv, Int.toNat_natCast, show (s.take k).length = k by simp; omega] at hst
        rw [hv] at hcell hv1
        have hvl : v ≤ 4294967295 := by omega
        have hnl : n < BB ^ k := by
          rw [HN.out]
          have := vl_lt (s.take k) (rg_take HG.out k)
          rwa [show (s.take k).length = k by simp; omega] at this
        have HST := Aside0.mk hst
        have HNL := Aside0.mk hnl
        have HVL := Aside0.mk hvl
        have hvl2 : (v : Int) ≤ 4294967295 := by omega
        clear hst hnl hvl hv hv0 hv1
        have hk2 : k ≤ 1 := by omega
        have HO := Aside0.mk (or_u64 n v k HNL.out HVL.out hk2)
        go_wp2
        go_round
        case rel => exact ⟨k + 1, n + v * 2 ^ (32 * k), by omega, by go_num, by rw [HO.out], ⟨by rw [HST.out, pow_BB, Nat.mul_comm]⟩⟩
        case measure => simp [intOf]; omega
      · obtain rfl : k = s.length := by omega
        have E3 := Aside0.mk (show n = vl BB x by rw [HN.out, List.take_length, HV.out])
        go_wp2
        go_ret2
        exact ⟨by rw [E.out, E2.out, ← E3.out]; rfl, rfl⟩
  · have E := Aside0.mk (show u64N (vl BB x) = 0 from if_neg (fun h => h2 (HF.out.2 h)))
    have E2 := Aside0.mk (decide_eq_false (fun h => h2 (HF.out.2 h)))
    have hm : 2 < s.length := by omega
    go_enter Try.func18, Try.ntmps18
    go_wp2_with (go_at_call 46; refine (natBare _ _ _ _ HR.out hc).mono ?_; rw [← HD.out]; rintro e w' ⟨rfl, rfl⟩)
    go_ret2
    exact ⟨by rw [E.out, E2.out]; rfl, rfl⟩
end Go.Proofs.Ytabnljkmdejgcaa
