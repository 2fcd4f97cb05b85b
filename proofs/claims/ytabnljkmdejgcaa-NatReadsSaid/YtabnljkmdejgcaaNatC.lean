import Derived.Test.YtabnljkmdejgcaaNatB
import Derived.Test.YtabnljkmdejgcaaNatQ
namespace Go.Proofs.Ytabnljkmdejgcaa
open Go.RowKit Go.Proofs.YtabnljkmdejgcaaW.PrintWords Go.Proofs.YtabnljkmdejgcaaW.PrintLast Go.Proofs.YtabnljkmdejgcaaW.PrintMore
set_option linter.unusedVariables false
theorem cut_int (A : Option Addr) (n c j : Nat) (hm : j ≤ n) (hc : n ≤ c) : ∀ W : World, (Instr.slice 33 (.slice A n c) none (some (.int .i64 (j : Int))) none).run Try.prog W = .ok (.slice A j c) W := by
  obtain ⟨i0, hi0, _⟩ := info_parts info_int
  have h := cut_to (P := Try.prog) 33 3 .i64 Try.underlying33 hi0 A n c (j : Int) (by omega) (by omega) hc
  rwa [Int.toNat_natCast] at h
theorem from_int (A : Option Addr) (n c j : Nat) (hm : j ≤ n) : ∀ W : World, (Instr.slice 33 (.slice A n c) (some (.int .i64 (j : Int))) none none).run Try.prog W = .ok (.slice (if c = j then A else A.map (·.add (j * 1))) (n - j) (c - j)) W := by
  obtain ⟨i0, hi0, _, hs, _⟩ := info_parts info_int
  have h := cut_from (P := Try.prog) 33 3 .i64 Try.underlying33 hi0 1 hs A n c (j : Int) (by omega) (by omega)
  simpa only [Int.toNat_natCast] using h
theorem mid_int (A : Option Addr) (n c i j : Nat) (h1 : i ≤ j) (hm : j ≤ n) (hc : n ≤ c) : ∀ W : World, (Instr.slice 33 (.slice A n c) (some (.int .i64 (i : Int))) (some (.int .i64 (j : Int))) none).run Try.prog W = .ok (.slice (if c = i then A else A.map (·.add (i * 1))) (j - i) (c - i)) W := by
  obtain ⟨i0, hi0, _, hs, _⟩ := info_parts info_int
  have h := cut_mid (P := Try.prog) 33 3 .i64 .i64 Try.underlying33 hi0 1 hs A n c (i : Int) (j : Int) (by omega) (by omega) (by omega) hc
  simpa only [Int.toNat_natCast] using h
set_option maxRecDepth 100000 in
set_option maxHeartbeats 400000 in
theorem refShort (A : Option Addr) (c : Nat) (x : List Int) (w : World) (h : Kd.C (Kd.int .i64) w A x.length x) (hc : x.length ≤ c) :
    Calls Try.prog 47 #[.slice A x.length c] w fun e w' => e = .returned (.slice A (strip x).length c) ∧ w = w' := by
  have HR := Aside0.mk h
  have hm := h.2.1
  clear h
  go_enter Try.func47, Try.ntmps47
  go_wp2
  go_loop [3] (fun v3 => ∃ k : Nat, k ≤ x.length ∧ v3 = .int .i64 k ∧ Aside0 (strip (x.take k) = strip x)) (fun v3 => (intOf v3).toNat)
  case atStart => exact ⟨x.length, Nat.le_refl _, rfl, ⟨by rw [List.take_length]⟩⟩
  case round =>
    obtain ⟨k, hk, rfl, HS⟩ := hrel
    have hcut := cut_int A x.length c k hk hc
    cases k with
    | zero =>
      have E := Aside0.mk HS.out
      go_wp2
      go_ret
      have e0 : strip x = [] := by rw [← E.out]; rfl
      exact ⟨by rw [e0]; rfl, rfl⟩
    | succ k =>
      have hlt : k < x.length := by omega
      obtain ⟨ad, rfl, hcell⟩ := C_num HR.out k hlt
      by_cases h0 : x[k] = 0
      · have E := Aside0.mk (take_strip_step x k hlt h0)
        rw [h0] at hcell
        clear h0
        go_wp2
        go_round
        case rel => exact ⟨k, by omega, by go_num, ⟨by rw [← E.out]; exact HS.out⟩⟩
        case measure => simp [intOf]
      · have E := Aside0.mk (take_strip_end x k hlt h0)
        go_wp2
        go_ret
        have e0 : (strip x).length = k + 1 := by rw [← HS.out, E.out]; simp; omega
        exact ⟨by rw [e0]; rfl, rfl⟩
theorem C_stripI {A : Option Addr} {x : List Int} {w : World} (h : Kd.C (Kd.int .i64) w A x.length x) : Kd.C (Kd.int .i64) w A (strip x).length (strip x) := by
  have h1 := Kd.C_take h (strip_pre x).2
  rwa [← (strip_pre x).1] at h1
theorem R_stripI {A : Option Addr} {c : Nat} {x : List Int} {w : World} {base : Nat} {ok : Nat → Prop} (h : (Kd.int .i64).R 3 w base ok (.slice A x.length c) x) : (Kd.int .i64).R 3 w base ok (.slice A (strip x).length c) (strip x) := by
  have h1 := Kd.R_take h (strip_pre x).2
  rwa [← (strip_pre x).1] at h1
theorem d4_val {x : List Int} (h : rg BB x) : strip (d4 x) = dig 256 (vl BB x) := by
  rw [← strip_vl (by decide) _ (d4_rg x), d4_vl x h]
set_option maxRecDepth 100000 in
set_option maxHeartbeats 1000000 in
theorem refDigits (A : Option Addr) (c : Nat) (x : List Int) (w : World) (h : Kd.C (Kd.int .u32) w A x.length x) (hx : rg BB x) (hl : x.length ≤ 1000000) :
    Calls Try.prog 14 #[.slice A x.length c] w (RetS (Kd.int .i64) 3 w (dig 256 (vl BB x))) := by
  have HR := Aside0.mk h
  have HX := Aside0.mk hx
  clear h hx
  go_enter Try.func14, Try.ntmps14
  go_wp2
  go_loopw [3, 4, 5, 6] (fun v3 v4 v5 v6 wr => ∃ (k : Nat) (Y : List Int) (Ao : Option Addr) (co : Nat), k ≤ x.length ∧ v4 = .int .i64 k ∧ v3 = .slice Ao Y.length co ∧ Y.length ≤ 4 * k ∧ Aside0 (Y = d4 (x.take k)) ∧ Aside0 ((Kd.int .i64).R 3 wr w.heap.size (fun _ => True) (.slice Ao Y.length co) Y) ∧ Aside0 (Below w.heap.size w wr)) (fun _ v4 _ _ _ => x.length - (intOf v4).toNat)
  case atStart => exact ⟨0, [], none, 0, Nat.zero_le _, rfl, rfl, Nat.le_refl _, ⟨rfl⟩, ⟨Kd.R_nil _ _ _ _ _⟩, ⟨Below.refl _ _⟩⟩
  case round =>
    obtain ⟨k, Y, Ao, co, hk, rfl, rfl, hY, HY, HO, HB⟩ := hrel
    by_cases hlt : k < x.length
    · obtain ⟨ad, rfl, hcell⟩ := C_num (Kd.C_below HR.out HB.out) k hlt
      obtain ⟨h0, h1⟩ := HX.out x[k] (List.getElem_mem hlt)
      obtain ⟨v, hv⟩ : ∃ v : Nat, x[k] = (v : Int) := ⟨x[k].toNat, by omega⟩
      have HV := Aside0.mk hv
      rw [hv] at hcell h1
      have H1 := Aside0.mk (show v ≤ 4294967295 by have : (v : Int) < 4294967296 := h1; omega)
      clear hv h0 h1
      have h1 := H1.out
      go_wp2
      clear h1
      go_loopw [3, 5, 6] (fun v3 v5 v6 wr => ∃ (j u : Nat) (Z : List Int) (Ao : Option Addr) (co : Nat), j ≤ 4 ∧ v6 = .int .i64 j ∧ v5 = .int .i64 u ∧ u ≤ 4294967295 ∧ v3 = .slice Ao Z.length co ∧ Z.length ≤ 4 * k + j ∧ Aside0 (u = v / 256 ^ j) ∧ Aside0 (Z = d4 (x.take k) ++ dk 256 v j) ∧ Aside0 ((Kd.int .i64).R 3 wr w.heap.size (fun _ => True) (.slice Ao Z.length co) Z) ∧ Aside0 (Below w.heap.size w wr)) (fun _ _ v6 _ => 4 - (intOf v6).toNat)
      case atStart => exact ⟨0, v, Y, Ao, co, by omega, rfl, rfl, H1.out, rfl, by omega, ⟨by simp⟩, ⟨by rw [HY.out]; simp [dk]⟩, HO, HB⟩
      case round =>
        obtain ⟨j, u, Z, Ao, co, hj, rfl, rfl, hu, rfl, hZ, HU, HZ, HO, HB⟩ := hrel
        by_cases hlj : j < 4
        · go_wp2_with (first
            | ((with_reducible refine gate_builtin (b := .append) (xs := #[.tmp 22, .tmp 25]) rfl ?_); at_builtin; refine Kd.R_append (Kd.int .i64) (w0 := w) w.heap.size rfl (.tmp 22) (.tmp 25) 33 3 (.int .i64 0) 8 rfl Try.underlying33 info_int rfl (by decide) (by omega) _ Z ((u : Int) % 256) [.int .i64 ((u : Int) % 256)] (fun _ => True) (fun _ => False) rfl rfl rfl (fun _ hk => hk.elim) (fun _ _ => trivial) HO.out HB.out HB.out.size (by (omega)) ?_; intro v_ w_ ho hb hg_ hat_; clear hg_ hat_; obtain ⟨y7, A7, c7, rfl, N7, HO7⟩ := R_open ho; have HB7 := Aside0.mk hb; clear ho hb))
          go_roundw
          case rel => exact ⟨j + 1, u / 256, y7, A7, c7, by omega, by go_num, by go_num, by omega, rfl, by rw [N7.out]; simp; omega, ⟨by rw [HU.out, Nat.div_div_eq_div_mul, ← Nat.pow_succ]⟩, ⟨by rw [N7.out, HZ.out, List.append_assoc, dk, ← HU.out]; simp⟩, HO7, HB7⟩
          case measure => simp [intOf]; omega
        · obtain rfl : j = 4 := by omega
          go_wp2
          go_roundw
          case rel => exact ⟨k + 1, Z, Ao, co, by omega, by go_num, rfl, by omega, ⟨by rw [HZ.out, List.take_succ_eq_append_getElem hlt, d4_snoc, HV.out]; rfl⟩, HO, HB⟩
          case measure => simp [intOf]; omega
    · obtain rfl : k = x.length := by omega
      have e1 : Y = d4 x := by rw [HY.out, List.take_length]
      obtain ⟨-, hcc, hC⟩ := Kd.R_reads' HO.out
      have HC := Aside0.mk hC
      have E1 := Aside0.mk e1
      clear hC e1
      go_wp2_with (go_at_call 47; refine (refShort _ _ _ _ HC.out hcc).mono ?_; rintro e w' ⟨rfl, rfl⟩)
      go_ret
      exact RetS.of (by rw [E1.out, d4_val HX.out]) (R_stripI HO.out) HB.out
end Go.Proofs.Ytabnljkmdejgcaa
