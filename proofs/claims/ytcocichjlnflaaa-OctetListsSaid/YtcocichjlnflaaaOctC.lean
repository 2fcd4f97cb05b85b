import Derived.Test.YtcocichjlnflaaaOctB
namespace Go.Proofs.Ytcocichjlnflaaa
open Go.RowKit Go.Proofs.YtcocichjlnflaaaW.PrintWords Go.Proofs.YtcocichjlnflaaaW.PrintLast Go.Proofs.YtcocichjlnflaaaW.PrintMore
set_option linter.unusedVariables false
def total (xss : List (List Int)) (k : Nat) : Nat := ((xss.take k).map List.length).sum
theorem total_zero (xss : List (List Int)) : total xss 0 = 0 := rfl
theorem total_succ (xss : List (List Int)) (k : Nat) (h : k < xss.length) : total xss (k + 1) = total xss k + (xss[k]).length := by
  unfold total
  rw [List.take_succ_eq_append_getElem h, List.map_append, List.sum_append]
  rfl
theorem total_le (xss : List (List Int)) (k : Nat) : total xss k ≤ total xss xss.length := by
  unfold total
  rw [List.take_length]
  conv => rhs; rw [← List.take_append_drop k xss, List.map_append, List.sum_append]
  omega
theorem flat_succ (xss : List (List Int)) (k : Nat) (h : k < xss.length) : (xss.take (k + 1)).flatten = (xss.take k).flatten ++ xss[k] := by
  rw [List.take_succ_eq_append_getElem h, List.flatten_append, List.flatten_singleton]
theorem flat_len (xss : List (List Int)) (k : Nat) : (xss.take k).flatten.length = total xss k := by
  unfold total; rw [List.length_flatten]
set_option maxRecDepth 100000 in
set_option maxHeartbeats 400000 in
theorem Concat8 (A0 : Option Addr) (c0 : Nat) (xss : List (List Int)) (w : World) (hr0 : Kd.C (Kd.slice 5 (Kd.int .u8)) w A0 xss.length xss) (hm : total xss xss.length ≤ 140737488355328) :
    Calls Try.prog 21 #[.slice A0 xss.length c0] w (RetS (Kd.int .u8) 5 w xss.flatten) := by
  have hx := hr0.2.1
  have HR := Aside0.mk hr0
  clear hr0
  go_enter Try.func21, Try.ntmps21
  go_wp2
  go_loop [3, 5, 11] (fun v3 v5 v11 => ∃ k : Nat, k ≤ xss.length ∧ v3 = .int .i64 (total xss k) ∧ v11 = .int .i64 k) (fun _ _ v11 => xss.length - (intOf v11).toNat)
  case atStart => exact ⟨0, Nat.zero_le _, rfl, rfl⟩
  case round =>
    obtain ⟨k, hk, rfl, rfl⟩ := hrel
    have ht := total_le xss k
    by_cases hlt : k < xss.length
    · obtain ⟨ad, A1, c1, rfl, hc, hl1, hC1⟩ := C_row HR.out k hlt
      have hs := total_succ xss k hlt
      have ht1 := total_le xss (k + 1)
      have HS := Aside0.mk hs
      have h1 : total xss k + (xss[k]).length ≤ 140737488355328 := by omega
      clear hs hC1
      go_wp2
      go_round
      case rel => exact ⟨k + 1, by omega, by rw [HS.out]; go_num, by go_num⟩
      case measure => simp [intOf]; omega
    · obtain rfl : k = xss.length := by omega
      have HB := Aside0.mk (Below.refl w.heap.size w)
      go_wp2_with (go_at_call 27; refine (Grow8 _ _ (by omega) (by omega)).mono ?_; rintro e w1 ⟨A1, c1, rfl, ho1, hb1⟩; have HO1 := Aside0.mk ho1; have HB1 := Aside0.mk hb1; clear ho1 hb1 HB)
      go_loopw [6, 8, 27] (fun v6 v8 v27 wr => ∃ (k : Nat) (Y : List Int) (A : Option Addr) (c : Nat), k ≤ xss.length ∧ v27 = .int .i64 k ∧ v6 = .slice A Y.length c ∧ Aside0 (Y = (xss.take k).flatten) ∧ Aside0 (Kd.R (Kd.int .u8) 5 wr w.heap.size (fun _ => True) (.slice A Y.length c) Y) ∧ Aside0 (Below w.heap.size w wr)) (fun _ _ v27 _ => xss.length - (intOf v27).toNat)
      case atStart => exact ⟨0, [], _, _, Nat.zero_le _, rfl, rfl, ⟨by simp⟩, HO1, HB1⟩
      case round =>
        obtain ⟨k, Y, A, c, hk, rfl, rfl, HY, HO, HB⟩ := hrel
        by_cases hlt : k < xss.length
        · obtain ⟨ad, A1, c1, rfl, hc, hl1, hC1⟩ := C_row (Kd.C_below HR.out HB.out) k hlt
          have HC1 := Aside0.mk hC1
          have HL := Aside0.mk (flat_len xss k)
          have HS := Aside0.mk (total_succ xss k hlt)
          have HT1 := Aside0.mk (total_le xss (k + 1))
          clear hC1
          go_wp2_with (first
            | ((with_reducible refine gate_builtin (b := .append) (xs := #[.tmp 31, .tmp 32]) rfl ?_); at_builtin; refine Kd.R_append_rows (Kd.int .u8) (w0 := w) w.heap.size rfl (.tmp 31) (.tmp 32) 22 5 (.int .u8 0) 1 rfl Try.underlying22 info_u8 rfl (by decide) (by omega) _ Y (xss[k]) _ _ _ (fun _ => True) (fun _ => False) rfl rfl HO.out HC1.out (fun _ _ h => h) (fun _ h => h.elim) (fun _ _ => trivial) HB.out HB.out.size (by (have := HY.out; have := HL.out; have := HS.out; have := HT1.out; subst Y; omega)) ?_; intro v_ w_ ho hb hg_ hat_; clear hg_ hat_; obtain ⟨y7, A7, c7, rfl, N7, HO7⟩ := R_open ho; have HB7 := Aside0.mk hb; clear ho hb))
          go_roundw
          case rel => exact ⟨k + 1, y7, _, _, by omega, by go_num, rfl, ⟨by rw [N7.out, HY.out, flat_succ xss k hlt]⟩, HO7, HB7⟩
          case measure => simp [intOf]; omega
        · obtain rfl : k = xss.length := by omega
          go_wp2
          go_ret
          exact RetS.of (by rw [HY.out, List.take_length]) HO.out HB.out
end Go.Proofs.Ytcocichjlnflaaa
