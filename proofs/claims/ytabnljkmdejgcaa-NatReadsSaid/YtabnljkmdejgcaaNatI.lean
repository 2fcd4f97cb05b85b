import Derived.Test.YtabnljkmdejgcaaNatH
namespace Go.Proofs.Ytabnljkmdejgcaa
open Go.RowKit Go.Proofs.YtabnljkmdejgcaaW.PrintWords Go.Proofs.YtabnljkmdejgcaaW.PrintLast Go.Proofs.YtabnljkmdejgcaaW.PrintMore
set_option linter.unusedVariables false
theorem bytes_bl (n : Nat) : (bl n + 7) / 8 = (dig 256 n).length := by
  have h : ∀ k, (dig 256 n).length ≤ k ↔ bl n ≤ 8 * k := fun k => by
    rw [dig_len (by decide), bl_le, Nat.pow_mul]
  have a := (h (dig 256 n).length).1 (Nat.le_refl _)
  rcases Nat.eq_zero_or_pos (dig 256 n).length with h0 | h0
  · omega
  · have b : ¬ bl n ≤ 8 * ((dig 256 n).length - 1) := fun hh => by
      have := (h _).2 hh
      omega
    omega
theorem digit_limb (N k : Nat) : N / BB ^ (k / 4) % BB / 2 ^ (8 * (k % 4)) % 256 = N / 256 ^ k % 256 := by
  have hm := Nat.mod_lt k (show 0 < 4 by decide)
  have hd := Nat.div_add_mod k 4
  have e1 : (BB : Nat) ^ (k / 4) = 256 ^ (4 * (k / 4)) := by rw [Nat.pow_mul]
  have e2 : (2 : Nat) ^ (8 * (k % 4)) = 256 ^ (k % 4) := by rw [Nat.pow_mul]
  have e3 : (BB : Nat) = 256 ^ (k % 4) * (256 * 256 ^ (3 - k % 4)) := by
    rw [← Nat.pow_succ', ← Nat.pow_add]
    have : k % 4 + (3 - k % 4 + 1) = 4 := by omega
    rw [this]
  generalize hM : N / BB ^ (k / 4) = M
  have h2 : M / 256 ^ (k % 4) = N / 256 ^ k := by
    rw [← hM, e1, Nat.div_div_eq_div_mul, ← Nat.pow_add, hd]
  rw [e2, ← h2]
  conv => lhs; rw [e3]
  rw [Nat.mod_mul_right_div_self, Nat.mod_mul_right_mod]
set_option maxRecDepth 100000 in
set_option maxHeartbeats 400000 in
theorem natBytes (A : Option Addr) (c : Nat) (x : List Int) (w : World) (h : Kd.C (Kd.int .u32) w A x.length x) (hc : x.length ≤ c) (hx : rg BB x) (hl : x.length ≤ 1000000) :
    Calls Try.prog 17 #[.slice A x.length c] w (RetS (Kd.int .u8) 5 w (dig 256 (vl BB x)).reverse) := by
  have HR := Aside0.mk h
  have HX := Aside0.mk hx
  clear h hx
  have hb8 := bytes_bl (vl BB x)
  have hDl := digits_len x HX.out
  obtain ⟨D, hD⟩ : ∃ D, D = dig 256 (vl BB x) := ⟨_, rfl⟩
  rw [← hD] at hb8 hDl ⊢
  have HD := Aside0.mk hD
  have HG := Aside0.mk (show rg 256 D by rw [hD]; exact rg_dig (by decide) _)
  obtain ⟨B, hB⟩ : ∃ B, B = bl (vl BB x) := ⟨_, rfl⟩
  rw [← hB] at hb8
  have HB' := Aside0.mk hB
  have hd1 : (D.length : Int) = (((B : Int) + 7) / 8) := by omega
  have hbl : (B : Int) ≤ 100000000 := by
    have : bl (vl BB x) ≤ 32 * x.length := (bl_le _ _).2 (by have := vl_lt x HX.out; rwa [pow_BB] at this)
    omega
  have hdl : D.length ≤ 4000000 := by omega
  have H1 := Aside0.mk hd1
  clear hD hB hb8 hd1 hDl
  go_enter Try.func17, Try.ntmps17
  go_wp2_with (go_at_call 38; refine (natBits _ _ _ _ HR.out hc HX.out (by omega)).mono ?_; rw [← HB'.out]; rintro e w' ⟨rfl, rfl⟩)
  go_loopw [3, 4] (fun v3 v4 wr => ∃ (k : Nat) (Y : List Int) (Ao : Option Addr) (co : Nat), k ≤ D.length ∧ v4 = .int .i64 ((k : Int) - 1) ∧ v3 = .slice Ao Y.length co ∧ Y.length + k = D.length ∧ Aside0 (Y = (D.drop k).reverse) ∧ Aside0 ((Kd.int .u8).R 5 wr w.heap.size (fun _ => True) (.slice Ao Y.length co) Y) ∧ Aside0 (Below w.heap.size w wr)) (fun _ v4 _ => (intOf v4 + 1).toNat)
  case atStart => exact ⟨D.length, [], none, 0, Nat.le_refl _, by rw [H1.out], rfl, by simp, ⟨by simp⟩, ⟨Kd.R_nil _ _ _ _ _⟩, ⟨Below.refl _ _⟩⟩
  case round =>
    obtain ⟨k, Y, Ao, co, hk, rfl, rfl, hY, HY, HO, HB⟩ := hrel
    cases k with
    | zero =>
      have E1 := Aside0.mk (show Y = D.reverse by rw [HY.out]; rfl)
      go_wp2
      go_ret
      exact RetS.of E1.out HO.out HB.out
    | succ k =>
      have hlt : k < D.length := by omega
      have hx4 : k / 4 < x.length := by have := digits_len x HX.out; rw [← HD.out] at this; omega
      obtain ⟨ad, rfl, hcell⟩ := C_num (Kd.C_below HR.out HB.out) (k / 4) hx4
      have hat := vl_at (b := BB) (by decide) x HX.out (k / 4) hx4
      have hdt := vl_at (b := 256) (by decide) D HG.out k hlt
      obtain ⟨q, hq⟩ : ∃ q : Nat, q = vl BB x / BB ^ (k / 4) % BB := ⟨_, rfl⟩
      rw [← hq] at hat
      rw [hat] at hcell
      have E2 := Aside0.mk (show D[k] = ((q / 2 ^ (8 * (k % 4)) % 256 : Nat) : Int) by rw [hdt, hq, digit_limb, HD.out, vl_dig (by decide)])
      have E := Aside0.mk (rev_step D k hlt)
      have hx4' : (k : Int) / 4 < x.length := by omega
      clear hat hdt hq
      go_wp2_with (first
        | ((with_reducible refine gate_builtin (b := .append) (xs := #[.tmp 14, .tmp 25]) rfl ?_); at_builtin; refine Kd.R_append (Kd.int .u8) (w0 := w) w.heap.size rfl (.tmp 14) (.tmp 25) 24 5 (.int .u8 0) 1 rfl Try.underlying24 info_u8 rfl (by decide) (by omega) _ Y ((q : Int) / 2 ^ (8 * (k % 4)) % 256) [.int .u8 ((q : Int) / 2 ^ (8 * (k % 4)) % 256)] (fun _ => True) (fun _ => False) rfl rfl rfl (fun _ hk => hk.elim) (fun _ _ => trivial) HO.out HB.out HB.out.size (by (omega)) ?_; intro v_ w_ ho hb hg_ hat_; clear hg_ hat_; obtain ⟨y7, A7, c7, rfl, N7, HO7⟩ := R_open ho; have HB7 := Aside0.mk hb; clear ho hb))
      go_roundw
      case rel => exact ⟨k, y7, A7, c7, by omega, by go_num, rfl, by rw [N7.out]; simp; omega, ⟨by rw [N7.out, HY.out, E.out, E2.out]; norm_cast⟩, HO7, HB7⟩
      case measure => simp [intOf]
theorem num_lead (b : List Int) (k : Nat) (hk : k < b.length) (h0 : b[k] = 0) : num (b.drop k) = num (b.drop (k + 1)) := by
  unfold num
  rw [rev_step b k hk, vl_snoc, h0]; simp
theorem num_first (b : List Int) (k : Nat) (hk : k < b.length) : num (b.take (k + 1)) = 256 * num (b.take k) + b[k].toNat := by
  unfold num
  rw [List.take_succ_eq_append_getElem hk, List.reverse_append, List.reverse_singleton, List.singleton_append]
  simp only [vl]
  omega
theorem num_len (b : List Int) (h : rg 256 b) (hb : 0 < b.length) (h0 : b[0] ≠ 0) : (dig 256 (num b)).length = b.length := by
  unfold num
  cases b with
  | nil => simp at hb
  | cons v l =>
    rw [List.reverse_cons]
    have hr := rg_rev h
    rw [List.reverse_cons] at hr
    rw [dig_of_snoc (by decide) _ _ (by simpa using h0) hr]
    simp
end Go.Proofs.Ytabnljkmdejgcaa
