/- Parts of the proof of the law NatNames (its functions' contracts and plain laws), laid together. -/
import Derived.Test.YtabnljkmdejgcaaZNatNames2
import Derived.Test.YtabnljkmdejgcaaZNatNames3
import Derived.Test.YtabnljkmdejgcaaZNatNames1
import Derived.OpenShut
namespace Go.Proofs.Ytabnljkmdejgcaa.G
open Go.RowKit Go.Proofs.YtabnljkmdejgcaaW.PrintWords Go.Proofs.YtabnljkmdejgcaaW.PrintLast Go.Proofs.YtabnljkmdejgcaaW.PrintMore
set_option linter.unusedVariables false
theorem tdiv_nat (n m : Nat) : Int.tdiv (n : Int) (m : Int) = ((n / m : Nat) : Int) := by rw [Int.tdiv_eq_ediv_of_nonneg (by omega)]; rfl
theorem tmod_nat (n m : Nat) : Int.tmod (n : Int) (m : Int) = ((n % m : Nat) : Int) := by rw [Int.tmod_eq_emod_of_nonneg (by omega)]; rfl
/-! ### power -/
theorem power_l0 (n : Nat) (hn : n ≤ 8191) (L : List Int) (hL : n / 32 < L.length) (d : Nat) : ∀ (k t : Nat), n % 32 - t = d → t ≤ n % 32 → d < k →
  postmarkref02_power.l0 k n L ((2 ^ t : Nat) : Int) t = some (L.set (n / 32) ((2 ^ (n % 32) : Nat) : Int)) := by
 have e32 : Int.tdiv (n : Int) 32 = ((n / 32 : Nat) : Int) := tdiv_nat n 32
 have m32 : Int.tmod (n : Int) 32 = ((n % 32 : Nat) : Int) := tmod_nat n 32
 induction d with
 | zero =>
  intro k t hd ht hk
  obtain ⟨k, rfl⟩ : ∃ m, k = m + 1 := ⟨k - 1, by omega⟩
  obtain rfl : t = n % 32 := by omega
  simp only [postmarkref02_power.l0]
  rw [m32, if_neg (by omega), e32, w64 _ (by omega), if_pos (by omega), if_pos (by omega), Int.toNat_natCast]
 | succ d ih =>
  intro k t hd ht hk
  obtain ⟨k, rfl⟩ : ∃ m, k = m + 1 := ⟨k - 1, by omega⟩
  have h2 : (2 : Nat) ^ t ≤ 2 ^ 30 := Nat.pow_le_pow_right (by decide) (by omega)
  have h3 : (2 : Nat) ^ 30 = 1073741824 := by decide
  have e : (2 * ((2 ^ t : Nat) : Int)) % 4294967296 = ((2 ^ (t + 1) : Nat) : Int) := by rw [Nat.pow_succ]; omega
  simp only [postmarkref02_power.l0]
  rw [m32, if_pos (by omega), e, w64 _ (by omega)]
  exact ih k (t + 1) (by omega) (by omega) (by omega)
theorem power_ev (n : Nat) (hn : n ≤ 8191) : ∃ k, ∀ j, postmarkref02_power.f (k + j) n = some (List.replicate (n / 32) 0 ++ [((2 ^ (n % 32) : Nat) : Int)]) := by
 have e32 : Int.tdiv (n : Int) 32 = ((n / 32 : Nat) : Int) := tdiv_nat n 32
 refine ⟨n % 32 + 1, fun j => ?_⟩
 unfold postmarkref02_power.f
 rw [e32, w64 ((n / 32 : Nat) : Int) (by omega), w64 (((n / 32 : Nat) : Int) + 1) (by omega), if_pos (by omega), if_pos (by omega), show (((n / 32 : Nat) : Int) + 1).toNat = n / 32 + 1 by omega]
 have h := power_l0 n hn (List.replicate (n / 32 + 1) 0) (by simp) (n % 32) (n % 32 + 1 + j) 0 (by omega) (by omega) (by omega)
 rw [Nat.pow_zero] at h
 refine h.trans ?_
 congr 1
 rw [List.replicate_succ', List.set_append, if_neg (by simp)]
 simp
theorem power_vl (n : Nat) : vl BB (List.replicate (n / 32) 0 ++ [((2 ^ (n % 32) : Nat) : Int)]) = 2 ^ n ∧ rg BB (List.replicate (n / 32) 0 ++ [((2 ^ (n % 32) : Nat) : Int)]) := by
 constructor
 ·rw [vl_snoc, vl_zeros, List.length_replicate, Int.toNat_natCast, Nat.zero_add, pow_split]
 ·refine rg_append.2 ⟨rg_zeros (by decide) _, fun v hv => ?_⟩
  rw [List.mem_singleton] at hv
  subst hv
  have : (2 : Nat) ^ (n % 32) < 2 ^ 32 := Nat.pow_lt_pow_right (by decide) (by omega)
  have h2 : (2 : Nat) ^ 32 = 4294967296 := by decide
  exact ⟨Int.natCast_nonneg _, by show ((2 ^ (n % 32) : Nat) : Int) < (4294967296 : Int); omega⟩
/-! ### Shl -/
def ref_Shl.f (l0 : List Int) (a1 : Int) : Option (List Int × Int) := if okN l0 ∧ a1 ≤ 9223372036854775807 then some (shlP (vl BB l0) a1) else none
theorem okN_nil : okN [] := ⟨rg_nil _, by simp⟩
theorem fit_zero : fit 0 := by unfold fit; exact Nat.pow_pos (by decide)
theorem may_nil (x : List Int) (h : okN x) : postmarkref02_May.f x [] = some (decide (fit (vl BB x))) := by
 unfold postmarkref02_May.f
 rw [if_pos ⟨h, okN_nil⟩]
 have : vl BB [] = 0 := rfl
 rw [this, decide_eq_true fit_zero, Bool.and_true]
theorem ansP_yes {n : Nat} (h : fit n) : ansP n = (dig BB n, 0) := by unfold ansP; rw [(ans_yes h).1, (ans_yes h).2]
theorem ansP_no {n : Nat} (h : ¬ fit n) : ansP n = ([], 20) := by unfold ansP; rw [(ans_no h).1, (ans_no h).2]
theorem fit_pow (n : Nat) (h : n ≤ 8191) : fit (2 ^ n) := by
 obtain ⟨k, hk⟩ : ∃ k, k = 256 := ⟨_, rfl⟩
 exact (fit_iff_pow _ k hk).2 (Nat.pow_lt_pow_right (by decide) (by omega))
theorem not_fit_pow (n V : Nat) (h : 8192 ≤ n) (hV : 0 < V) : ¬ fit (V * 2 ^ n) := by
 obtain ⟨k, hk⟩ : ∃ k, k = 256 := ⟨_, rfl⟩
 rw [fit_iff_pow _ k hk, Nat.not_lt]
 have e1 : (2 : Nat) ^ (32 * k) ≤ 2 ^ n := Nat.pow_le_pow_right (by decide) (by omega)
 have e2 : 1 * 2 ^ n ≤ V * 2 ^ n := Nat.mul_le_mul_right _ hV
 omega
theorem ref_Shl.ev (l0 : List Int) (a1 : Int) (r : List Int × Int) (h : ref_Shl.f l0 a1 = some r) : ∃ k, postmarkref02_Shl.f k l0 a1 = some r := by
 obtain ⟨⟨h1, h2⟩, rfl⟩ := if_some h
 by_cases h0 : a1 < 0
 ·exact ⟨0, by unfold postmarkref02_Shl.f shlP; rw [if_pos h0, if_pos h0]⟩
 obtain ⟨n, rfl⟩ := Int.eq_ofNat_of_zero_le (show 0 ≤ a1 by omega)
 have eb : postmarkref02_Bits.f l0 = some (bl (vl BB l0) : Int) := if_pos h1
 have em := may_nil l0 h1
 have b0 := bl_pos (vl BB l0)
 obtain ⟨V, hV⟩ : ∃ V, V = vl BB l0 := ⟨_, rfl⟩
 rw [← hV] at eb em b0 ⊢
 have es : shlP V (n : Int) = ansP (V * 2 ^ n) := by unfold shlP; rw [if_neg (by omega), Int.toNat_natCast]
 rw [es]
 by_cases hf : fit V
 ·rw [decide_eq_true hf] at em
  rcases Nat.eq_zero_or_pos V with hz | hz
  ·have hb : bl V = 0 := by omega
   refine ⟨1, ?_⟩
   unfold postmarkref02_Shl.f
   rw [if_neg (by omega), em, Option.bind_some, eb, Option.bind_some, if_pos rfl, hb, if_neg (by decide)]
   simp only [postmarkref02_Shl.j0]
   rw [if_neg (by decide), if_pos (by decide), hz, Nat.zero_mul, ansP_yes fit_zero, dig_zero]
  ·have hb := b0.2 hz
   by_cases h8 : n ≤ 8191
   ·obtain ⟨K, hK⟩ := power_ev n h8
    have hp := hK 0
    rw [Nat.add_zero] at hp
    obtain ⟨hv, hg⟩ := power_vl n
    refine ⟨K + 1, ?_⟩
    unfold postmarkref02_Shl.f
    rw [if_neg (by omega), em, Option.bind_some, eb, Option.bind_some, if_pos rfl, if_pos (by omega), decide_eq_false (by omega)]
    simp only [postmarkref02_Shl.j0]
    rw [if_neg (by decide), if_neg (by omega), hp, Option.bind_some]
    have hm : ref_Mul.f l0 (List.replicate (n / 32) 0 ++ [((2 ^ (n % 32) : Nat) : Int)]) = some (mulP (vl BB l0) (2 ^ n)) := by
     unfold ref_Mul.f
     rw [if_pos ⟨h1, hg, by simp; omega⟩, hv]
    rw [hm, Option.bind_some, ← hV]
    unfold mulP
    rw [if_pos ⟨hf, fit_pow n h8⟩]
   ·have hn : ¬ fit (V * 2 ^ n) := not_fit_pow n V (by omega) hz
    refine ⟨1, ?_⟩
    unfold postmarkref02_Shl.f
    rw [if_neg (by omega), em, Option.bind_some, eb, Option.bind_some, if_pos rfl, if_pos (by omega), decide_eq_true (by omega)]
    simp only [postmarkref02_Shl.j0]
    rw [if_pos trivial, ansP_no hn]
 ·rw [decide_eq_false hf] at em
  have hn : ¬ fit (V * 2 ^ n) := fun h => hf (by
   unfold fit at h ⊢
   have : V * 1 ≤ V * 2 ^ n := Nat.mul_le_mul_left _ (Nat.pow_pos (by decide))
   omega)
  refine ⟨1, ?_⟩
  unfold postmarkref02_Shl.f
  rw [if_neg (by omega), em, Option.bind_some, eb, Option.bind_some, if_neg (by decide)]
  simp only [postmarkref02_Shl.j0]
  rw [if_pos trivial, ansP_no hn]
/-! ### Shr -/
def ref_Shr.f (l0 : List Int) (a1 : Int) : Option (List Int × Int) := if okN l0 ∧ a1 ≤ 9223372036854775807 then some (shrP (vl BB l0) a1) else none
theorem mod_bit (n k : Nat) : n % 2 ^ (k + 1) = n % 2 ^ k + (if n.testBit k then 2 ^ k else 0) := by
 rw [Nat.testBit_eq_decide_div_mod_eq, Nat.pow_succ, Nat.mod_mul]
 have := Nat.mod_two_eq_zero_or_one (n / 2 ^ k)
 rcases this with h | h <;> simp [h]
theorem p256 (q : Nat) : 256 ^ q = 2 ^ (8 * q) := by rw [Nat.pow_mul]
theorem shr_cut (W : Nat) (Y : List Int) (hg : rg 256 Y) (hl : Y.length ≤ 10000000) (hv : vl 256 Y = W) : postmarkref02_Cut.f Y = some (ansP W) := by
 rw [← hv]; exact if_pos ⟨hg, hl⟩
theorem shr_end (k : Nat) (x Y : List Int) (B i : Nat) (wo v : Int) (W : Nat) (h : B ≤ i) (hg : rg 256 Y) (hl : Y.length ≤ 10000000) (hv : vl 256 Y = W) : postmarkref02_Shr.l0 (k + 1) x B Y wo v i = some (ansP W) := by
 simp only [postmarkref02_Shr.l0]
 rw [if_neg (by omega), shr_cut W Y hg hl hv]
 rfl
/-- Bits of V from n on, up to i; eight of them a digit, the others in v. -/
theorem shr_l0 (x : List Int) (hx : okN x) (n : Nat) (V B : Nat) (hV : V = vl BB x) (hB : B = bl V) (hB2 : B ≤ 10000000) (d : Nat) : ∀ (k i : Nat) (Y : List Int) (wo v : Nat), B - i = d → i < B → n ≤ i → d < k →
  wo = 2 ^ ((i - n) % 8) → Y = dk 256 (V / 2 ^ n) ((i - n) / 8) → v = (V / 2 ^ n) / 256 ^ ((i - n) / 8) % wo →
  postmarkref02_Shr.l0 k x B Y wo v i = some (ansP (V / 2 ^ n)) := by
 induction d with
 | zero => intro k i Y wo v hd hi; omega
 | succ d ih =>
  intro k i Y wo v hd hi hn hk hwo hY hv
  obtain ⟨k, rfl⟩ : ∃ m, k = m + 1 := ⟨k - 1, by omega⟩
  have hbit : postmarkref02_Bit.f x (i : Int) = some (V.testBit i) := by
   unfold postmarkref02_Bit.f bitI
   rw [if_pos ⟨hx, by omega⟩, if_pos (by omega), Int.toNat_natCast, hV]
  obtain ⟨W, hW⟩ : ∃ W, W = V / 2 ^ n := ⟨_, rfl⟩
  obtain ⟨q, hq⟩ : ∃ q, q = (i - n) / 8 := ⟨_, rfl⟩
  obtain ⟨s, hs⟩ : ∃ s, s = (i - n) % 8 := ⟨_, rfl⟩
  have hin : i = n + (8 * q + s) := by omega
  have hs8 : s ≤ 7 := by omega
  have hWl : W < 2 ^ (B - n) := by
   have h1 : V < 2 ^ B := (bl_le V B).1 (by omega)
   rw [hW, Nat.div_lt_iff_lt_mul (Nat.pow_pos (by decide)), ← Nat.pow_add, show B - n + n = B by omega]
   exact h1
  have hb2 : V.testBit i = (W / 256 ^ q).testBit s := by
   rw [hW, p256, Nat.testBit_div_two_pow, Nat.testBit_div_two_pow, hin]
   congr 1
   omega
  rw [← hW] at hY hv ⊢
  rw [← hq] at hY hv
  rw [← hs] at hwo
  have hwl : wo ≤ 128 := by rw [hwo]; exact Nat.pow_le_pow_right (by decide) (show s ≤ 7 from hs8)
  have hw0 : 0 < wo := by rw [hwo]; exact Nat.pow_pos (by decide)
  have hvl : v < wo := by rw [hv]; exact Nat.mod_lt _ hw0
  have hYl : Y.length = q := by rw [hY, dk_len]
  have hYg : rg 256 Y := by rw [hY]; exact dk_rg (by decide) _ _
  have hYv : vl 256 Y = W % 256 ^ q := by rw [hY, dk_vl]
  obtain ⟨v', hv'⟩ : ∃ v', v' = W / 256 ^ q % 2 ^ (s + 1) := ⟨_, rfl⟩
  have hv2 : v' = if V.testBit i = true then v + wo else v := by
   rw [hv', mod_bit, ← hb2, ← hwo, ← hv]
   split <;> simp
  have hv'l : v' < 2 ^ (s + 1) := by rw [hv']; exact Nat.mod_lt _ (Nat.pow_pos (by decide))
  have h2wo : 2 * wo = 2 ^ (s + 1) := by rw [hwo, Nat.pow_succ, Nat.mul_comm]
  have key : postmarkref02_Shr.l0 (k + 1) x B Y wo v i = if 2 * wo = 256 ∨ i + 1 = B then postmarkref02_Shr.l0 k x B (Y ++ [(v' : Int)]) 1 0 ((i + 1 : Nat) : Int) else postmarkref02_Shr.l0 k x B Y ((2 * wo : Nat) : Int) v' ((i + 1 : Nat) : Int) := by
   have e1 : (2 : Int) * (wo : Int) = ((2 * wo : Nat) : Int) := rfl
   have e2 : (i : Int) + 1 = ((i + 1 : Nat) : Int) := rfl
   simp only [postmarkref02_Shr.l0]
   rw [if_pos (by omega), hbit, Option.bind_some, e1, e2, w64 _ (by omega), w64 ((i + 1 : Nat) : Int) (by omega), w64 ((B : Int) - 1) (by omega)]
   by_cases hb : V.testBit i = true
   ·rw [if_pos hb] at hv2
    have e3 : (v : Int) + (wo : Int) = (v' : Int) := by omega
    rw [if_pos hb, e3, w64 (v' : Int) (by omega)]
    by_cases c1 : 2 * wo = 256
    ·rw [if_pos (by omega), if_pos (by omega), if_pos (.inl c1)]
    ·rw [if_neg (by omega)]
     by_cases c2 : i + 1 = B
     ·rw [if_pos (by omega), if_pos (by omega), if_pos (.inr c2)]
     ·rw [if_neg (by omega), if_neg (by omega)]
   ·rw [if_neg hb] at hv2
    rw [if_neg hb, hv2]
    by_cases c1 : 2 * wo = 256
    ·rw [if_pos (by omega), if_pos (by omega), if_pos (.inl c1)]
    ·rw [if_neg (by omega)]
     by_cases c2 : i + 1 = B
     ·rw [if_pos (by omega), if_pos (by omega), if_pos (.inr c2)]
     ·rw [if_neg (by omega), if_neg (by omega)]
  have hv'b : v' < 256 := by
   have : (2 : Nat) ^ (s + 1) ≤ 2 ^ 8 := Nat.pow_le_pow_right (by decide) (by omega)
   have e8 : (2 : Nat) ^ 8 = 256 := by decide
   omega
  have g2 : rg 256 (Y ++ [(v' : Int)]) := rg_append.2 ⟨hYg, fun u hu => by
   rw [List.mem_singleton] at hu
   subst hu
   exact ⟨by omega, by show (v' : Int) < (256 : Int); omega⟩⟩
  rw [key]
  by_cases c2 : i + 1 = B
  ·rw [if_pos (.inr c2)]
   obtain ⟨k, rfl⟩ : ∃ m, k = m + 1 := ⟨k - 1, by omega⟩
   refine shr_end k x _ B (i + 1) 1 0 W (by omega) g2 (by simp; omega) ?_
   have hWq : W / 256 ^ q < 2 ^ (s + 1) := by
    rw [Nat.div_lt_iff_lt_mul (Nat.pow_pos (by decide)), p256, ← Nat.pow_add, show s + 1 + 8 * q = B - n by omega]
    exact hWl
   rw [vl_snoc, Int.toNat_natCast, hYv, hYl, hv', Nat.mod_eq_of_lt hWq]
   have := Nat.mod_add_div W (256 ^ q)
   omega
  ·by_cases c1 : 2 * wo = 256
   ·rw [if_pos (.inl c1)]
    have s7 : s = 7 := by
     rcases Nat.lt_or_ge s 7 with h | h
     ·have : (2 : Nat) ^ (s + 1) ≤ 2 ^ 7 := Nat.pow_le_pow_right (by decide) (by omega)
      have e7 : (2 : Nat) ^ 7 = 128 := by decide
      omega
     ·omega
    have t1 : (i + 1 - n) / 8 = q + 1 := by omega
    have t2 : (i + 1 - n) % 8 = 0 := by omega
    have := ih k (i + 1) (Y ++ [(v' : Int)]) 1 0 (by omega) (by omega) (by omega) (by omega) (by rw [t2]) (by
     rw [t1, ← hW, hY, dk, hv', s7]) (by rw [Nat.mod_one])
    rw [← hW] at this
    exact this
   ·rw [if_neg (by omega)]
    have s7 : s < 7 := by
     rcases Nat.lt_or_ge s 7 with h | h
     ·exact h
     ·exfalso
      have : s = 7 := by omega
      subst this
      omega
    have t1 : (i + 1 - n) / 8 = q := by omega
    have t2 : (i + 1 - n) % 8 = s + 1 := by omega
    have := ih k (i + 1) Y (2 * wo) v' (by omega) (by omega) (by omega) (by omega) (by rw [t2, h2wo]) (by rw [t1, ← hW, hY]) (by rw [t1, ← hW, hv', h2wo])
    rw [← hW] at this
    exact this
theorem ref_Shr.ev (l0 : List Int) (a1 : Int) (r : List Int × Int) (h : ref_Shr.f l0 a1 = some r) : ∃ k, postmarkref02_Shr.f k l0 a1 = some r := by
 obtain ⟨⟨h1, h2⟩, rfl⟩ := if_some h
 by_cases h0 : a1 < 0
 ·exact ⟨0, by unfold postmarkref02_Shr.f shrP; rw [if_pos h0, if_pos h0]⟩
 obtain ⟨n, rfl⟩ := Int.eq_ofNat_of_zero_le (show 0 ≤ a1 by omega)
 have eb : postmarkref02_Bits.f l0 = some (bl (vl BB l0) : Int) := if_pos h1
 have em := may_nil l0 h1
 have hbl : bl (vl BB l0) ≤ 32 * l0.length := (bl_le _ _).2 (by have := vl_lt l0 h1.1; rwa [pow_BB] at this)
 obtain ⟨V, hV⟩ : ∃ V, V = vl BB l0 := ⟨_, rfl⟩
 rw [← hV] at eb em hbl ⊢
 have hl := h1.2
 unfold shrP
 rw [if_neg (by omega), Int.toNat_natCast]
 by_cases hf : fit V
 ·rw [decide_eq_true hf] at em
  have hB : bl V ≤ 8192 := (fit_bl V).1 hf
  refine ⟨bl V + 2, ?_⟩
  unfold postmarkref02_Shr.f
  rw [if_neg (by omega), em, Option.bind_some, if_pos rfl, eb, Option.bind_some, if_pos hf]
  rcases Nat.lt_or_ge n (bl V) with hn | hn
  ·exact shr_l0 l0 h1 n V (bl V) hV rfl (by omega) (bl V - n) (bl V + 2) n [] 1 0 rfl hn (Nat.le_refl _) (by omega) (by simp) (by simp [dk]) (by simp [Nat.mod_one])
  ·refine shr_end (bl V + 1) l0 [] (bl V) n 1 0 _ hn (rg_nil _) (by simp) ?_
   rw [Nat.div_eq_of_lt ((bl_le V n).1 hn)]
   rfl
 ·rw [decide_eq_false hf] at em
  refine ⟨0, ?_⟩
  unfold postmarkref02_Shr.f
  rw [if_neg (by omega), em, Option.bind_some, if_neg (by decide), if_neg hf]
end Go.Proofs.Ytabnljkmdejgcaa.G
namespace Go.Proofs.Ytabnljkmdejgcaa.G
open Go.RowKit Go.Proofs.YtabnljkmdejgcaaW.PrintWords Go.Proofs.YtabnljkmdejgcaaW.PrintLast Go.Proofs.YtabnljkmdejgcaaW.PrintMore
set_option linter.unusedVariables false
/-! Plain laws over the layer's functions as they are told. -/
theorem str_toList (xs : List Int) : (strOfNums xs).toList = xs.map fun n => UInt8.ofNat n.toNat := by rw [ByteArray.toList_eq, strOfNums_data]
theorem fit_of_lt (n j : Nat) (hj : j ≤ 8192) (h : n < 2 ^ j) : fit n := by
 obtain ⟨k, hk⟩ : ∃ k, k = 256 := ⟨_, rfl⟩
 rw [fit_iff_pow n k hk]
 exact Nat.lt_of_lt_of_le h (Nat.pow_le_pow_right (by decide) (by omega))
theorem fit_small (n : Nat) (h : n < 18446744073709551616) : fit n := fit_of_lt n 64 (by omega) h
theorem fit_len_le (x : List Int) (g : rg BB x) (h : x.length ≤ 256) : fit (vl BB x) := by
 refine fit_of_lt _ (32 * x.length) (by omega) ?_
 rw [← pow_BB]
 exact vl_lt x g
theorem okN_dig (n : Nat) (h : fit n) : okN (dig BB n) := ⟨rg_dig (by decide) _, by have := (fit_len n).2 h; omega⟩
theorem vdig (n : Nat) : vl BB (dig BB n) = n := vl_dig (by decide) n
theorem rg_wf {x : List Int} (h : ∀ n ∈ x, (Lit.int .u32 n).wf = true) : rg BB x := fun v hv => by
 have := bounds_u32 (h v hv)
 exact ⟨this.1, by show v < 4294967296; omega⟩
theorem rg_wf8 {x : List Int} (h : ∀ n ∈ x, (Lit.int .u8 n).wf = true) : rg 256 x := fun v hv => by
 have := bounds_u8 (h v hv)
 exact ⟨this.1, by show v < 256; omega⟩
theorem dig1 (n : Nat) (h0 : 0 < n) (h : n < BB) : dig BB n = [(n : Int)] := by
 rw [dig_pos (by decide) h0, Nat.mod_eq_of_lt h, Nat.div_eq_of_lt h, dig_zero]
theorem dig2 (a b : Nat) (ha : a < BB) (h0 : 0 < b) (h : b < BB) : dig BB (a + BB * b) = [(a : Int), (b : Int)] := by
 have hB : 0 < BB := by decide
 have hp : 0 < BB * b := Nat.mul_pos hB h0
 rw [dig_pos (by decide) (by omega), Nat.add_mul_mod_self_left, Nat.mod_eq_of_lt ha, Nat.add_mul_div_left _ _ hB, Nat.div_eq_of_lt ha, Nat.zero_add, dig1 b h0 h]
theorem ofC (n : Nat) (h : n < 18446744073709551616) : nat_Of.f (n : Int) = some (dig BB n) := by
 unfold nat_Of.f
 rw [if_pos ⟨by omega, by omega⟩, Int.toNat_natCast]
theorem sameC (x y : List Int) (h : x.length ≤ 1000000000) : ref_Same.f x y = some (decide (x = y)) := if_pos h
theorem bytes5 : (dig 256 4294967301).reverse = [1, 0, 0, 0, 5] := by
 rw [dig_pos (by decide) (by decide), dig_pos (by decide) (by decide), dig_pos (by decide) (by decide), dig_pos (by decide) (by decide), dig_pos (by decide) (by decide), show 4294967301 / 256 / 256 / 256 / 256 / 256 = 0 from rfl, dig_zero]
 rfl
theorem isC (x y : List Int) (h : x.length ≤ 1000000000) : postmarklaw02_is.f x 0 y = some (decide (x = y)) := by
 unfold postmarklaw02_is.f
 rw [if_pos rfl, sameC x y h]
 rfl
theorem alive_ev : postmarklaw02_alive.f = some true := by
 have e1 : nat_Of.f 4294967301 = some [5, 1] := by
  rw [show (4294967301 : Int) = ((4294967301 : Nat) : Int) from rfl, ofC _ (by decide), show 4294967301 = 5 + BB * 1 from rfl, dig2 5 1 (by decide) (by decide) (by decide)]
  rfl
 have e2 : nat_Of.f 4294967295 = some [4294967295] := by
  rw [show (4294967295 : Int) = ((4294967295 : Nat) : Int) from rfl, ofC _ (by decide), dig1 _ (by decide) (by decide)]
 have e3 : nat_Of.f 1 = some [1] := by
  rw [show (1 : Int) = ((1 : Nat) : Int) from rfl, ofC _ (by decide), dig1 _ (by decide) (by decide)]
 have e4 : nat_Read.f [0, 0, 1, 0] = some ([256], 0) := by
  unfold nat_Read.f
  rw [if_pos (by decide), show num [0, 0, 1, 0] = 256 from rfl, ansP_yes (fit_small 256 (by decide)), dig1 256 (by decide) (by decide)]
  rfl
 have e5 : nat_Add.f [4294967295] [1] = some ([0, 1], 0) := by
  unfold nat_Add.f addP
  rw [if_pos (by decide), show vl BB [4294967295] = 4294967295 from rfl, show vl BB [1] = 1 from rfl, if_pos ⟨fit_small _ (by decide), fit_small _ (by decide)⟩, ansP_yes (fit_small _ (by decide)),
   show 4294967295 + 1 = 0 + BB * 1 from rfl, dig2 0 1 (by decide) (by decide) (by decide)]
  rfl
 have e6 : nat_Bytes.f [5, 1] = some [1, 0, 0, 0, 5] := by
  unfold nat_Bytes.f
  rw [if_pos (by decide), show vl BB [5, 1] = 4294967301 from rfl, bytes5]
 unfold postmarklaw02_alive.f
 rw [e1, Option.bind_some, e4, Option.bind_some, e2, Option.bind_some, e3, Option.bind_some, e5, Option.bind_some, isC _ _ (by decide), Option.bind_some, if_pos (by decide), e6, Option.bind_some, if_pos (by rw [str_toList]; decide), isC _ _ (by decide), Option.bind_some, if_pos (by decide), isC _ _ (by decide), Option.bind_some]
 rfl
theorem cmpZ_neg (a b : Int) : cmpZ b a = -cmpZ a b := by
 unfold cmpZ
 split <;> split <;> (try split) <;> omega
theorem cmpZ_rng (a b : Int) : -1 ≤ cmpZ a b ∧ cmpZ a b ≤ 1 := by
 unfold cmpZ
 split
 ·omega
 ·split <;> omega
/-- The first of digits, the highest one first, is not 0. -/
theorem dig_first (n : Nat) (h : 0 < ((dig 256 n).reverse).length) : ((dig 256 n).reverse)[0] ≠ 0 := by
 obtain ⟨m, v, hv, e⟩ := strip_last (dig 256 n) (by rw [strip_dig (by decide)]; intro h0; rw [h0] at h; simp at h)
 rw [strip_dig (by decide)] at e
 simp [e, hv]
theorem num_rev (n : Nat) : num (dig 256 n).reverse = n := by
 unfold num
 rw [List.reverse_reverse, vl_dig (by decide)]
/-- Bytes without noughts ahead are their number's. -/
theorem bare_bytes (b : List Int) (g : rg 256 b) (h : ∀ hp : 0 < b.length, b[0] ≠ 0) : (dig 256 (num b)).reverse = b := by
 cases b with
 | nil => unfold num; simp [vl, dig_zero]
 | cons v l =>
  have hv : v ≠ 0 := h (by simp)
  unfold num
  rw [List.reverse_cons] 
  have hg : rg 256 (l.reverse ++ [v]) := by
   have := rg_rev g
   rwa [List.reverse_cons] at this
  rw [dig_of_snoc (by decide) _ _ hv hg]
  simp
end Go.Proofs.Ytabnljkmdejgcaa.G
namespace Go.Proofs.Ytabnljkmdejgcaa.Pure
open Go.RowKit Go.Proofs.Ytabnljkmdejgcaa Go.Proofs.Ytabnljkmdejgcaa.G Go.Proofs.YtabnljkmdejgcaaW.PrintWords Go.Proofs.YtabnljkmdejgcaaW.PrintLast
set_option linter.unusedVariables false
theorem nofit_pow (m : Nat) (h : 8192 ≤ m) : ¬ fit (2 ^ m) := by
 obtain ⟨k, hk⟩ : ∃ k, k = 256 := ⟨_, rfl⟩
 rw [fit_iff_pow _ k hk]
 exact Nat.not_lt.2 (Nat.pow_le_pow_right (by decide) (by omega))
theorem ofS (n : Nat) (h0 : 0 < n) (h : n < BB) : nat_Of.f (n : Int) = some [(n : Int)] := by
 rw [ofC n (Nat.lt_trans h (by decide)), dig1 n h0 h]
theorem okS (n : Nat) (h : n < BB) : okN [(n : Int)] := ⟨fun v hv => by
 have : v = (n : Int) := by simpa using hv
 subst this
 exact ⟨by omega, by omega⟩, by simp⟩
theorem okN2 (a b : Nat) (h : a < BB) (h2 : b < BB) : okN [(a : Int), (b : Int)] := ⟨fun v hv => by
 have : v = (a : Int) ∨ v = (b : Int) := by simpa using hv
 rcases this with rfl | rfl
 ·exact ⟨by omega, by omega⟩
 ·exact ⟨by omega, by omega⟩, by simp⟩
theorem vl_one (n k : Nat) (hk : k < n) : vl BB ((List.replicate n 0).set k 1) = BB ^ k := by
 rw [vl_set _ k (by simpa using hk) 1 (by simp) (by simp), vl_zeros]
 simp
theorem top_ex (m : Nat) (hm : m = 8191) : ∃ top, nat_Shl.f [1] 8191 = some (top, 0) ∧ okN top ∧ vl BB top = 2 ^ m ∧ top.length = 256 := by
 have hf : fit (2 ^ m) := fit_of_lt _ (m + 1) (by omega) (Nat.pow_lt_pow_right (by decide) (by omega))
 refine ⟨dig BB (2 ^ m), ?_, okN_dig _ hf, vdig _, ?_⟩
 ·unfold nat_Shl.f shlP
  rw [show (8191 : Int) = ((m : Nat) : Int) by omega, if_pos ⟨okS 1 (by decide), by omega⟩, if_neg (by omega), Int.toNat_natCast, show vl BB [1] = 1 from rfl, Nat.one_mul, ansP_yes hf]
 ·have h1 := (fit_len (2 ^ m)).2 hf
  obtain ⟨k, hk⟩ : ∃ k, k = 255 := ⟨_, rfl⟩
  have h2 : ¬ (dig BB (2 ^ m)).length ≤ k := by
   rw [dig_len (by decide), show BB ^ k = 2 ^ (32 * k) from (by rw [Nat.pow_mul])]
   exact Nat.not_lt.2 (Nat.pow_le_pow_right (by decide) (by omega))
  omega
theorem zeros_ok (n : Nat) (h : n ≤ 1000000) : okN (List.replicate n 0) := ⟨rg_zeros (by decide) n, by simpa using h⟩
theorem read_long : nat_Read.f ([1] ++ List.replicate 1024 0) = some ([], 20) := by
 obtain ⟨m, hm⟩ : ∃ m, m = 1024 := ⟨_, rfl⟩
 rw [← hm]
 have g : rg 256 ([1] ++ List.replicate m 0) := rg_append.2 ⟨fun v hv => by
  have : v = 1 := by simpa using hv
  subst this
  exact ⟨by decide, by decide⟩, rg_zeros (by decide) m⟩
 have hl : ([1] ++ List.replicate m (0 : Int)).length = m + 1 := by simp
 unfold nat_Read.f
 rw [if_pos ⟨g, by omega⟩, ansP_no (num_nofit _ g (by omega) (fun hp => by simp))]
theorem read_zeros : nat_Read.f (List.replicate 2000 0) = some ([], 0) := by
 obtain ⟨m, hm⟩ : ∃ m, m = 2000 := ⟨_, rfl⟩
 rw [← hm]
 unfold nat_Read.f
 rw [if_pos ⟨rg_zeros (by decide) m, by rw [List.length_replicate]; omega⟩]
 have : num (List.replicate m 0) = 0 := by
  unfold num
  rw [List.reverse_replicate, vl_zeros]
 rw [this, ansP_yes fit_zero, dig_zero]
theorem trim_zeros : nat_Trim.f (List.replicate 300 0) = some ([], 0) := by
 obtain ⟨m, hm⟩ : ∃ m, m = 300 := ⟨_, rfl⟩
 rw [← hm]
 unfold nat_Trim.f
 rw [if_pos (zeros_ok m (by omega)), vl_zeros, ansP_yes fit_zero, dig_zero]
theorem long_ex : ∃ y, (List.replicate 300 (0 : Int)).set (256 : Int).toNat 1 = y ∧ okN y ∧ ¬ fit (vl BB y) ∧ nat_Trim.f y = some ([], 20) ∧ nat_Sub.f y y = some ([], 20) := by
 obtain ⟨m, hm⟩ : ∃ m, m = 300 := ⟨_, rfl⟩
 obtain ⟨k, hk⟩ : ∃ k, k = 256 := ⟨_, rfl⟩
 have ok : okN ((List.replicate m (0 : Int)).set k 1) := ⟨rg_set (rg_zeros (by decide) m) k 1 (by decide) (by decide), by rw [List.length_set, List.length_replicate]; omega⟩
 have nf : ¬ fit (vl BB ((List.replicate m (0 : Int)).set k 1)) := by
  rw [vl_one m k (by omega)]
  unfold fit
  rw [hk]
  exact Nat.lt_irrefl _
 refine ⟨(List.replicate m (0 : Int)).set k 1, by rw [hm, hk]; rfl, ok, nf, ?_, ?_⟩
 ·unfold nat_Trim.f
  rw [if_pos ok, ansP_no nf]
 ·unfold nat_Sub.f subP
  rw [if_pos ⟨ok, ok⟩, if_neg (fun h => nf h.1)]
theorem bl8 : bl 8 = 4 := bl_eq 8 3 (by decide) (by decide)
theorem NatNames : postmarklaw02_NatNames.Pure := by
 unfold postmarklaw02_NatNames.Pure postmarklaw02_NatNames.f
 have o1 : nat_Of.f 1 = some [1] := ofS 1 (by decide) (by decide)
 have o2 : nat_Of.f 2 = some [2] := ofS 2 (by decide) (by decide)
 have o3 : nat_Of.f 3 = some [3] := ofS 3 (by decide) (by decide)
 have o8 : nat_Of.f 8 = some [8] := ofS 8 (by decide) (by decide)
 have oM : nat_Of.f 4294967295 = some [4294967295] := ofS 4294967295 (by decide) (by decide)
 have o0 : nat_Of.f 0 = some [] := by
  rw [show (0 : Int) = ((0 : Nat) : Int) from rfl, ofC 0 (by decide), dig_zero]
 have k1 : okN [1] := okS 1 (by decide)
 have k2 : okN [2] := okS 2 (by decide)
 have k3 : okN [3] := okS 3 (by decide)
 have k8 : okN [8] := okS 8 (by decide)
 have kM : okN [4294967295] := okS 4294967295 (by decide)
 have k06 : okN [0, 6] := okN2 0 6 (by decide) (by decide)
 have s1 : nat_Sub.f [1] [2] = some ([], 20) := by
  unfold nat_Sub.f subP
  rw [if_pos ⟨k1, k2⟩, if_neg (fun h => absurd h.2.2 (by decide))]
 have m1 : nat_Mul.f [4294967295] [4294967295] = some ([1, 4294967294], 0) := by
  unfold nat_Mul.f mulP
  rw [if_pos ⟨kM, kM⟩, show vl BB [4294967295] = 4294967295 from rfl, if_pos ⟨fit_small _ (by decide), fit_small _ (by decide)⟩, ansP_yes (fit_small _ (by decide)),
   show 4294967295 * 4294967295 = 1 + BB * 4294967294 from rfl, dig2 1 4294967294 (by decide) (by decide) (by decide)]
  rfl
 have l3 : nat_Shl.f [3] 33 = some ([0, 6], 0) := by
  unfold nat_Shl.f shlP
  rw [if_pos ⟨k3, by decide⟩, if_neg (by decide), show vl BB [3] * 2 ^ (33 : Int).toNat = 0 + BB * 6 from rfl, ansP_yes (fit_small _ (by decide)), dig2 0 6 (by decide) (by decide) (by decide)]
  rfl
 have r3 : nat_Shr.f [0, 6] 34 = some ([1], 0) := by
  unfold nat_Shr.f shrP
  rw [if_pos ⟨k06, by decide⟩, if_neg (by decide), show vl BB [0, 6] = 25769803776 from rfl, if_pos (fit_small _ (by decide)), show 25769803776 / 2 ^ (34 : Int).toNat = 1 from rfl, ansP_yes (fit_small _ (by decide)), dig1 1 (by decide) (by decide)]
  rfl
 have l1 : nat_Shl.f [1] 8192 = some ([], 20) := by
  obtain ⟨m, hm⟩ : ∃ m, m = 8192 := ⟨_, rfl⟩
  unfold nat_Shl.f shlP
  rw [show (8192 : Int) = ((m : Nat) : Int) by omega, if_pos ⟨k1, by omega⟩, if_neg (by omega), Int.toNat_natCast, show vl BB [1] = 1 from rfl, Nat.one_mul, ansP_no (nofit_pow m (by omega))]
 have lm : nat_Shl.f [1] (-1) = some ([], 2) := by
  unfold nat_Shl.f shlP
  rw [if_pos ⟨k1, by decide⟩, if_pos (by decide)]
 have rm : nat_Shr.f [1] (-1) = some ([], 2) := by
  unfold nat_Shr.f shrP
  rw [if_pos ⟨k1, by decide⟩, if_pos (by decide)]
 have l0 : nat_Shl.f [] 1099511627776 = some ([], 0) := by
  unfold nat_Shl.f shlP
  rw [if_pos ⟨⟨rg_nil _, by decide⟩, by decide⟩, if_neg (by decide), show vl BB [] = 0 from rfl, Nat.zero_mul, ansP_yes fit_zero, dig_zero]
 have u1 : nat_Uint.f [1, 2, 0] = some (8589934593, true) := by
  unfold nat_Uint.f
  rw [if_pos ⟨fun v hv => by
   have : v = 1 ∨ v = 2 ∨ v = 0 := by simpa using hv
   rcases this with rfl | rfl | rfl <;> exact ⟨by decide, by decide⟩, by decide⟩]
  rfl
 have u0 : nat_Uint.f [0, 0, 1] = some (0, false) := by
  unfold nat_Uint.f
  rw [if_pos ⟨fun v hv => by
   have : v = 0 ∨ v = 1 := by simpa using hv
   rcases this with rfl | rfl <;> exact ⟨by decide, by decide⟩, by decide⟩]
  rfl
 have b8 : nat_Bits.f [8] = some 4 := by
  unfold nat_Bits.f
  rw [if_pos k8, show vl BB [8] = 8 from rfl, bl8]
  rfl
 have t3 : nat_Bit.f [8] 3 = some true := by
  unfold nat_Bit.f bitI
  rw [if_pos ⟨k8, by decide⟩, if_pos (by decide)]
  rfl
 have t2 : nat_Bit.f [8] 2 = some false := by
  unfold nat_Bit.f bitI
  rw [if_pos ⟨k8, by decide⟩, if_pos (by decide)]
  rfl
 have tm : nat_Bit.f [8] (-1) = some false := by
  unfold nat_Bit.f bitI
  rw [if_pos ⟨k8, by decide⟩, if_neg (by decide)]
 have b0 : nat_Bits.f [0, 0] = some 0 := by
  unfold nat_Bits.f
  rw [if_pos (show okN [0, 0] from okN2 0 0 (by decide) (by decide)), show vl BB [0, 0] = 0 from rfl]
  rfl
 have c5 : nat_Cmp.f [5] [5, 0] = some 0 := by
  unfold nat_Cmp.f
  rw [if_pos ⟨show okN [5] from okS 5 (by decide), show okN [5, 0] from okN2 5 0 (by decide) (by decide)⟩]
  rfl
 obtain ⟨m, hm⟩ : ∃ m, m = 8191 := ⟨_, rfl⟩
 obtain ⟨top, et, kt, vt, lt⟩ := top_ex m hm
 have ft : fit (vl BB top) := by
  rw [vt]
  exact fit_of_lt _ (m + 1) (by omega) (Nat.pow_lt_pow_right (by decide) (by omega))
 have nf : ¬ fit (2 ^ (m + 1)) := nofit_pow _ (by omega)
 have a1 : nat_Add.f top top = some ([], 20) := by
  unfold nat_Add.f addP
  rw [if_pos ⟨kt, kt⟩, if_pos ⟨ft, ft⟩, vt, show 2 ^ m + 2 ^ m = 2 ^ (m + 1) by rw [Nat.pow_succ]; omega, ansP_no nf]
 have m2 : nat_Mul.f top [2] = some ([], 20) := by
  unfold nat_Mul.f mulP
  rw [if_pos ⟨kt, k2⟩, if_pos ⟨ft, fit_small _ (by decide)⟩, vt, show vl BB [2] = 2 from rfl, ← Nat.pow_succ, ansP_no nf]
 obtain ⟨y, ey, ky, ny, ty, sy⟩ := long_ex
 have cy : nat_Cmp.f y top = some 1 := by
  unfold nat_Cmp.f
  rw [if_pos ⟨ky, kt⟩, cmpZ_gt (by
   unfold fit at ft ny
   omega)]
 have i1 : postmarklaw02_is.f [1, 4294967294] 0 [1, 4294967294] = some true := by rw [isC _ _ (by decide)]; rfl
 have i2 : postmarklaw02_is.f [0, 6] 0 [0, 6] = some true := by rw [isC _ _ (by decide)]; rfl
 have i3 : postmarklaw02_is.f [1] 0 [1] = some true := by rw [isC _ _ (by decide)]; rfl
 rw [o1, Option.bind_some, o2, Option.bind_some, s1, Option.bind_some, oM, Option.bind_some, Option.bind_some, m1, Option.bind_some, o3, Option.bind_some, l3, Option.bind_some, r3, Option.bind_some, Option.bind_some, l1, Option.bind_some, Option.bind_some,
  et, Option.bind_some, a1, Option.bind_some, Option.bind_some, m2, Option.bind_some, Option.bind_some, lm, Option.bind_some, Option.bind_some, rm, Option.bind_some, l0, Option.bind_some, Option.bind_some, if_pos (by decide), read_long, Option.bind_some, if_pos (by decide), read_zeros, Option.bind_some, if_pos (by decide), Option.bind_some,
  trim_zeros, Option.bind_some, if_pos (by rw [List.length_replicate]; decide), Option.bind_some, ey, ty, Option.bind_some, sy, Option.bind_some, u1, Option.bind_some, u0, Option.bind_some, if_pos rfl, i1, Option.bind_some, if_pos rfl, i2, Option.bind_some, if_pos rfl, i3, Option.bind_some, if_pos rfl,
  if_pos rfl, if_pos rfl, if_pos (by show ((top.length : Nat) : Int) = 256; rw [lt]; rfl), if_pos rfl, if_pos rfl, if_pos rfl, if_pos rfl, if_pos (show ((([] : List Int).length : Nat) : Int) = 0 from rfl), if_pos rfl, if_pos rfl, if_pos (show ((([] : List Int).length : Nat) : Int) = 0 from rfl), if_pos rfl, if_pos (show ((([] : List Int).length : Nat) : Int) = 0 from rfl), if_pos rfl, if_pos rfl,
  o8, Option.bind_some, alive_ev, Option.bind_some, if_pos rfl, if_pos rfl, if_pos rfl, if_pos rfl, if_neg (by decide), b8, Option.bind_some, if_pos rfl, t3, Option.bind_some, if_pos rfl, t2, Option.bind_some, if_neg (by decide), tm, Option.bind_some, if_neg (by decide), b0, Option.bind_some, if_pos rfl, c5, Option.bind_some, if_pos rfl, cy, Option.bind_some, if_pos rfl, o0, Option.bind_some]
 rfl
end Go.Proofs.Ytabnljkmdejgcaa.Pure
